/- Tables and rows that are made in a region whose order is left open. -/
import Derived.Test.YtdigopgncfhiaaaDoorA12
import Derived.Test.YtdigopgncfhiaaaDoorA9
import Derived.Test.YtdigopgncfhiaaaDoorA14
namespace Go.Proofs.YtdigopgncfhiaaaDoor
variable {ro : Option Nat}
open Go.RowKit
set_option linter.unusedSimpArgs false
set_option linter.unusedVariables false
set_option linter.unusedSectionVars false
/-- a table somewhere among the blocks from lo to hi -/
def Ent.hidT {α : Type} (enc : α → List Value) (k e gt lo hi : Nat) (xss : List (List α)) : Ent :=
  ⟨fun b => lo ≤ b ∧ b < hi, fun w => ∃ L : List (SlOf α), L.map (·.xs) = xss ∧ Own lo w [.tabG encOf (rowOf enc k e) gt L] ∧ ∀ b, (Ent.tabG encOf (rowOf enc k e) gt L).S b → b < hi, fun w w' hs h hp => by
    obtain ⟨L, h1, h2, h3⟩ := hp
    exact ⟨L, h1, h2.past hs (fun f hf b hb => by
      simp only [List.mem_singleton] at hf; subst hf
      exact h b ⟨(h2.foot _ (by simp) b hb).1, h3 b hb⟩), h3⟩⟩
theorem flat_nilOf {α : Type} : ∀ m : Nat, (List.replicate m (nilOf : SlOf α)).flatMap encOf = List.replicate m (.slice none 0 0)
  | 0 => rfl
  | m + 1 => by rw [List.replicate_succ, List.flatMap_cons, flat_nilOf m, List.replicate_succ]; rfl
section
variable {P : Program} {w0 : World} {n : Nat} {d : List Deferred} {R R0 : List (Nat × Value)} {H H' H0 : List Ent} {Q : Exit → Act → World → Prop} {ops : Array Oper} {bs : List (List Bool)} {b : List Bool} {k : Nat} {o : Oper} {rest : List Oper} {T : List Rw} {t : Tmp} {Hk : Wits → List Ent} {x y : Operand} {v : Value} {X : Act → World → Prop}
theorem u_hidT {α : Type} {enc : α → List Value} {kk e gt lo hi : Nat} {xss : List (List α)} (ht : Take H (.hidT enc kk e gt lo hi xss) H') (h : ∀ L : List (SlOf α), L.map (·.xs) = xss → U w0 n d R (.tabG encOf (rowOf enc kk e) gt L :: H') X) : U w0 n d R H X := fun a w q => by
  have ho := q.own.take ht
  obtain ⟨L, h1, h2, h3⟩ := ho.here (.hidT enc kk e gt lo hi xss) (by simp)
  exact h L h1 a w (q.heap q.below (ho.recast (fun _ => h2.here _ (by simp)) (fun b hb => ⟨(h2.foot _ (by simp) b hb).1, h3 b hb⟩)))
theorem own_makeR {α : Type} {enc : α → List Value} {z0 : α} {z : Value} {e n0 : Nat} (hez : enc z0 = [z]) (hn : n0 ≤ 1000) (w : World) : Own w.heap.size (w.alloc (.cells (madeCells #[z] n0) e)) [.row enc 1 e (.slice (some ⟨w.heap.size, 0, none⟩) n0 n0) (List.replicate n0 z0)] := by
  have hfl : (List.replicate n0 z0).flatMap enc = List.replicate n0 z := by
    clear hn
    induction n0 with
    | zero => rfl
    | succ m ih => rw [List.replicate_succ, List.flatMap_cons, ih, hez, List.replicate_succ]; rfl
  refine ⟨fun f hf => ?_, fun f hf b hb => ?_, by simp⟩
  · simp only [List.mem_singleton] at hf
    subst hf
    show Row enc 1 e 0 _ _ _
    unfold Row
    rw [hfl]
    refine ⟨by simp, .inr ⟨w.heap.size, n0, madeCells #[z] n0, by simp, Nat.zero_le _, heap_alloc_new w _, by simp, by simp [maxLen]; omega, by simp [madeCells], ?_⟩⟩
    have := toList_madeCells_one z n0
    rw [this]; simp
  · simp only [List.mem_singleton] at hf; subst hf; cases hb; simp
theorem run_make1 {T1 e : TypeId} {i : TypeInfo} {z : Value} {n0 s : Nat} {g : Bool} [i1 : TyI P T1 (.slice e) s g] (hi : P.info? e = some i) (hz : i.zero = some z) (h1 : i.size = 1) (hcz : z.cells = #[z]) (hb : Nat.ble (i.bytes * 1000) 281474976710656 = true) (hn : n0 ≤ 1000) (w : World) : (Instr.makeSlice T1 (.int .i64 (n0 : Int)) (.int .i64 (n0 : Int))).run P w = .ok (.slice (some ⟨w.heap.size, 0, none⟩) n0 n0) (w.alloc (.cells (madeCells #[z] n0) e)) := by
  have hb' : (i.bytes : Int) * (n0 : Int) ≤ 281474976710656 := by
    have h9 := Nat.le_of_ble_eq_true hb
    have h8 : i.bytes * n0 ≤ i.bytes * 1000 := Nat.mul_le_mul_left _ hn
    have h7 : ((i.bytes * n0 : Nat) : Int) ≤ 281474976710656 := by omega
    rwa [Int.natCast_mul] at h7
  have hr := run_make (P := P) w T1 e i z i1.und hi hz .i64 .i64 n0 n0 (by omega) (Int.le_refl _) hb' (by omega)
  simpa only [Int.toNat_natCast, h1, Nat.mul_one, hcz] using hr
end
section
variable {S : Pend} {P : Program} {w0 : World} {n : Nat} {d : List Deferred} {R R0 : List (Nat × Value)} {H H' H0 : List Ent} {Q : Exit → Act → World → Prop} {ops : Array Oper} {bs : List (List Bool)} {b : List Bool} {k : Nat} {o : Oper} {rest : List Oper} {T : List Rw} {t : Tmp} {Hk : Wits → List Ent} {x y : Operand} {v : Value} {X : Act → World → Prop}
/-- a call that returns a new table -/
theorem c_tab {α : Type} {enc : α → List Value} {kk e nn : Nat} {xss : List (List α)} {f : FuncId} {fx : Operand} {xs : Array Operand} {ts : Array TypeId} {vs : Wits → List Value} {cap : Array Value} (hn : xss.length = nn) (hop : o.op = .call ⟨.value fx, xs, ts⟩) (hw : ∀ G, want (Rk R0 ops b o T G) ops o = some true) (hd : o.dst = some t) (hf : ∀ G, evR (Rk R0 ops b o T G) fx = some (.func (.func f) #[] cap)) (hx : ∀ G, evs (Rk R0 ops b o T G) xs.toList = some (vs G)) [ci : CallI P f]
    (hc : ∀ G a w, Kn w0 n d (Rk R0 ops b o T G) (Hk G) a w → Ret P f (vs G ++ cap.toList) w (fun p : Nat × List (SlOf α) => .slice (some ⟨p.1, 0, none⟩) p.2.length p.2.length) (fun p => [.tabG encOf (rowOf enc kk e) p.1 p.2]) (fun p => p.2.map (·.xs) = xss))
    (h : Chain ro S P w0 n d ops R0 H0 Q bs (k + 1) rest (⟨k, some t, fun G => (.slice (some ⟨(G k).g, 0, none⟩) nn nn, [.hidT enc kk e (G k).g ((G k).A.getD ⟨0, 0, none⟩).block (G k).m xss])⟩ :: T)) : CAt ro S P w0 n d ops R0 H0 Q b bs k o rest T Hk := by
  refine c_row (f := fun G => (.slice (some ⟨(G k).g, 0, none⟩) nn nn, [.hidT enc kk e (G k).g ((G k).A.getD ⟨0, 0, none⟩).block (G k).m xss])) (fun G G' hG => by simp only [hG k (.inl rfl)]) (fun G a w q K hK => ?_) (by rw [hd]; exact h)
  rw [want_ok q (hw G), if_pos rfl]
  unfold Oper.wp execOp; rw [hop]
  have e1 : xs.map a.eval = (vs G).toArray := by apply Array.ext'; simpa using q.evs (hx G)
  have e2 : (vs G).toArray ++ cap = (vs G ++ cap.toList).toArray := by apply Array.ext'; simp
  simp only [resolve, q.ev (hf G), e1, Deferred.ofValue, Sem.run_bind, Sem.run_pure, Result.andThen_ok, invoke, Array.empty_append, e2, ci.ent, Oper.upon_enter]
  refine Calls.mono (hc G a w q).calls ?_
  rintro en w' ⟨⟨g, L⟩, hp, rfl, hb, hE⟩
  simp only at hp hE
  have hl : L.length = nn := by rw [← hn, ← hp]; simp
  refine hK _ [.hidT enc kk e g w.heap.size w'.heap.size xss] _ ⟨⟨g, some ⟨w.heap.size, 0, none⟩, w'.heap.size⟩, by simp [upW, hl]⟩ hb ⟨fun f hf => ?_, fun f hf b hb' => ?_, by simp⟩
  · simp only [List.mem_singleton] at hf; subst hf
    exact ⟨L, hp, hE, fun b hb => (hE.foot _ (by simp) b hb).2⟩
  · simp only [List.mem_singleton] at hf; subst hf
    exact hb'
/-- make([]T, n), as a row -/
theorem c_makeR {α : Type} {enc : α → List Value} [ei : EncI enc 1] (z0 : α) {T1 e : TypeId} {i : TypeInfo} {z : Value} {n0 s : Nat} {g : Bool} (hop : o.op = .makeSlice T1 x y) [i1 : TyI P T1 (.slice e) s g] (hi : P.info? e = some i) (hz : i.zero = some z) (h1 : i.size = 1) (hcz : z.cells = #[z]) (hez : enc z0 = [z]) (hb : Nat.ble (i.bytes * 1000) 281474976710656 = true) (hw : ∀ G, want (Rk R0 ops b o T G) ops o = some true) (hd : o.dst = some t) (hx : ∀ G, evR (Rk R0 ops b o T G) x = some (.int .i64 (n0 : Int))) (hy : ∀ G, evR (Rk R0 ops b o T G) y = some (.int .i64 (n0 : Int))) (hn : n0 ≤ 1000)
    (h : Chain ro S P w0 n d ops R0 H0 Q bs (k + 1) rest (⟨k, some t, fun G => (.slice (some ⟨(G k).g, 0, none⟩) n0 n0, [.row enc 1 e (.slice (some ⟨(G k).g, 0, none⟩) n0 n0) (List.replicate n0 z0)])⟩ :: T)) : CAt ro S P w0 n d ops R0 H0 Q b bs k o rest T Hk := by
  refine c_row (f := fun G => (.slice (some ⟨(G k).g, 0, none⟩) n0 n0, [.row enc 1 e (.slice (some ⟨(G k).g, 0, none⟩) n0 n0) (List.replicate n0 z0)])) (fun G G' hG => by simp only [hG k (.inl rfl)]) (fun G a w q K hK => ?_) (by rw [hd]; exact h)
  rw [want_ok q (hw G), if_pos rfl]
  unfold Oper.wp execOp; rw [hop]
  simp only [Sem.run_bind, q.ev (hx G), q.ev (hy G), run_make1 hi hz h1 hcz hb hn w, Result.andThen_ok, Sem.run_pure, Oper.upon_value]
  exact hK _ _ _ ⟨⟨w.heap.size, none, 0⟩, by simp only [upW, if_true]⟩ (below_alloc w _) (own_makeR hez hn w)
/-- make([][]T, n), as a table -/
theorem c_makeT {α : Type} {enc : α → List Value} {kk e2 : Nat} {T1 e : TypeId} {i : TypeInfo} {n0 s : Nat} {g : Bool} (hop : o.op = .makeSlice T1 x y) [i1 : TyI P T1 (.slice e) s g] (hi : P.info? e = some i) (hz : i.zero = some (.slice none 0 0)) (h1 : i.size = 1) (hb : Nat.ble (i.bytes * 1000) 281474976710656 = true) (hw : ∀ G, want (Rk R0 ops b o T G) ops o = some true) (hd : o.dst = some t) (hx : ∀ G, evR (Rk R0 ops b o T G) x = some (.int .i64 (n0 : Int))) (hy : ∀ G, evR (Rk R0 ops b o T G) y = some (.int .i64 (n0 : Int))) (hn : n0 ≤ 1000)
    (h : Chain ro S P w0 n d ops R0 H0 Q bs (k + 1) rest (⟨k, some t, fun G => (.slice (some ⟨(G k).g, 0, none⟩) n0 n0, [.tabG encOf (rowOf enc kk e2) (G k).g (List.replicate n0 (nilOf : SlOf α))])⟩ :: T)) : CAt ro S P w0 n d ops R0 H0 Q b bs k o rest T Hk := by
  refine c_row (f := fun G => (.slice (some ⟨(G k).g, 0, none⟩) n0 n0, [.tabG encOf (rowOf enc kk e2) (G k).g (List.replicate n0 (nilOf : SlOf α))])) (fun G G' hG => by simp only [hG k (.inl rfl)]) (fun G a w q K hK => ?_) (by rw [hd]; exact h)
  rw [want_ok q (hw G), if_pos rfl]
  unfold Oper.wp execOp; rw [hop]
  simp only [Sem.run_bind, q.ev (hx G), q.ev (hy G), run_make1 hi hz h1 rfl hb hn w, Result.andThen_ok, Sem.run_pure, Oper.upon_value]
  refine hK _ [.tabG encOf (rowOf enc kk e2) w.heap.size (List.replicate n0 (nilOf : SlOf α))] _ ⟨⟨w.heap.size, none, 0⟩, by simp only [upW, if_true]⟩ (below_alloc w _) ?_
  have h2 : Own w.heap.size (w.alloc (.cells (madeCells #[.slice none 0 0] n0) e)) [.blk w.heap.size (List.replicate n0 (.slice none 0 0))] := by
    have e3 : madeCells #[Value.slice none 0 0] n0 = (List.replicate n0 (Value.slice none 0 0)).toArray := by
      apply Array.ext'
      have := toList_madeCells_one (Value.slice none 0 0) n0
      rw [this]
    rw [e3]
    exact own_new w _ e
  have h3 : Own w.heap.size (w.alloc (.cells (madeCells #[.slice none 0 0] n0) e)) [.arr encOf 1 w.heap.size (List.replicate n0 (nilOf : SlOf α))] := h2.recast (fun hp => ⟨[], by rw [flat_nilOf, List.append_nil]; exact hp⟩) (fun b hb => hb)
  have h4 := own_nilRows (α := α) (enc := enc) (k := kk) (e := e2) (g := w.heap.size) n0 h3
  refine own_all.1 (h4.perm ?_)
  rw [List.append_nil]
  exact List.perm_append_comm
end
end Go.Proofs.YtdigopgncfhiaaaDoor
namespace Go.Proofs.YtdigopgncfhiaaaDoor.Two
variable {ro : Option Nat}
open Go.RowKit
set_option linter.unusedSimpArgs false
set_option linter.unusedVariables false
set_option linter.unusedSectionVars false
section
variable {S : List (Nat × Nat)} {I : List (Nat × Nat × Nat × List Ent)} {P : Program} {w0 : World} {n : Nat} {d : List Deferred} {R R0 : List (Nat × Value)} {H H' H0 : List Ent} {Q : Exit → Act → World → Prop} {ops : Array Oper} {bs : List (List Bool)} {b : List Bool} {k : Nat} {o : Oper} {rest : List Oper} {T : List Rw} {t : Tmp} {Hk : Wits → List Ent} {x y : Operand} {v : Value} {X : Act → World → Prop}
/-- a call that returns a new table -/
theorem c_tab {α : Type} {enc : α → List Value} {kk e nn : Nat} {xss : List (List α)} {f : FuncId} {fx : Operand} {xs : Array Operand} {ts : Array TypeId} {vs : Wits → List Value} {cap : Array Value} (hn : xss.length = nn) (hop : o.op = .call ⟨.value fx, xs, ts⟩) (hw : ∀ G, want (Rk R0 ops b o T G) ops o = some true) (hd : o.dst = some t) (hf : ∀ G, evR (Rk R0 ops b o T G) fx = some (.func (.func f) #[] cap)) (hx : ∀ G, evs (Rk R0 ops b o T G) xs.toList = some (vs G)) [ci : CallI P f]
    (hc : ∀ G a w, Kn w0 n d (Rk R0 ops b o T G) (Hk G) a w → Ret P f (vs G ++ cap.toList) w (fun p : Nat × List (SlOf α) => .slice (some ⟨p.1, 0, none⟩) p.2.length p.2.length) (fun p => [.tabG encOf (rowOf enc kk e) p.1 p.2]) (fun p => p.2.map (·.xs) = xss))
    (h : Chain ro S I P w0 n d ops R0 H0 Q bs (k + 1) rest (⟨k, some t, fun G => (.slice (some ⟨(G k).g, 0, none⟩) nn nn, [.hidT enc kk e (G k).g ((G k).A.getD ⟨0, 0, none⟩).block (G k).m xss])⟩ :: T)) : CAt ro S I P w0 n d ops R0 H0 Q b bs k o rest T Hk := by
  refine c_row (f := fun G => (.slice (some ⟨(G k).g, 0, none⟩) nn nn, [.hidT enc kk e (G k).g ((G k).A.getD ⟨0, 0, none⟩).block (G k).m xss])) (fun G G' hG => by simp only [hG k (.inl rfl)]) (fun G a w q K hK => ?_) (by rw [hd]; exact h)
  rw [want_ok q (hw G), if_pos rfl]
  unfold Oper.wp execOp; rw [hop]
  have e1 : xs.map a.eval = (vs G).toArray := by apply Array.ext'; simpa using q.evs (hx G)
  have e2 : (vs G).toArray ++ cap = (vs G ++ cap.toList).toArray := by apply Array.ext'; simp
  simp only [resolve, q.ev (hf G), e1, Deferred.ofValue, Sem.run_bind, Sem.run_pure, Result.andThen_ok, invoke, Array.empty_append, e2, ci.ent, Oper.upon_enter]
  refine Calls.mono (hc G a w q).calls ?_
  rintro en w' ⟨⟨g, L⟩, hp, rfl, hb, hE⟩
  simp only at hp hE
  have hl : L.length = nn := by rw [← hn, ← hp]; simp
  refine hK _ [.hidT enc kk e g w.heap.size w'.heap.size xss] _ ⟨⟨g, some ⟨w.heap.size, 0, none⟩, w'.heap.size⟩, by simp [upW, hl]⟩ hb ⟨fun f hf => ?_, fun f hf b hb' => ?_, by simp⟩
  · simp only [List.mem_singleton] at hf; subst hf
    exact ⟨L, hp, hE, fun b hb => (hE.foot _ (by simp) b hb).2⟩
  · simp only [List.mem_singleton] at hf; subst hf
    exact hb'
/-- make([]T, n), as a row -/
theorem c_makeR {α : Type} {enc : α → List Value} [ei : EncI enc 1] (z0 : α) {T1 e : TypeId} {i : TypeInfo} {z : Value} {n0 s : Nat} {g : Bool} (hop : o.op = .makeSlice T1 x y) [i1 : TyI P T1 (.slice e) s g] (hi : P.info? e = some i) (hz : i.zero = some z) (h1 : i.size = 1) (hcz : z.cells = #[z]) (hez : enc z0 = [z]) (hb : Nat.ble (i.bytes * 1000) 281474976710656 = true) (hw : ∀ G, want (Rk R0 ops b o T G) ops o = some true) (hd : o.dst = some t) (hx : ∀ G, evR (Rk R0 ops b o T G) x = some (.int .i64 (n0 : Int))) (hy : ∀ G, evR (Rk R0 ops b o T G) y = some (.int .i64 (n0 : Int))) (hn : n0 ≤ 1000)
    (h : Chain ro S I P w0 n d ops R0 H0 Q bs (k + 1) rest (⟨k, some t, fun G => (.slice (some ⟨(G k).g, 0, none⟩) n0 n0, [.row enc 1 e (.slice (some ⟨(G k).g, 0, none⟩) n0 n0) (List.replicate n0 z0)])⟩ :: T)) : CAt ro S I P w0 n d ops R0 H0 Q b bs k o rest T Hk := by
  refine c_row (f := fun G => (.slice (some ⟨(G k).g, 0, none⟩) n0 n0, [.row enc 1 e (.slice (some ⟨(G k).g, 0, none⟩) n0 n0) (List.replicate n0 z0)])) (fun G G' hG => by simp only [hG k (.inl rfl)]) (fun G a w q K hK => ?_) (by rw [hd]; exact h)
  rw [want_ok q (hw G), if_pos rfl]
  unfold Oper.wp execOp; rw [hop]
  simp only [Sem.run_bind, q.ev (hx G), q.ev (hy G), run_make1 hi hz h1 hcz hb hn w, Result.andThen_ok, Sem.run_pure, Oper.upon_value]
  exact hK _ _ _ ⟨⟨w.heap.size, none, 0⟩, by simp only [upW, if_true]⟩ (below_alloc w _) (own_makeR hez hn w)
/-- make([][]T, n), as a table -/
theorem c_makeT {α : Type} {enc : α → List Value} {kk e2 : Nat} {T1 e : TypeId} {i : TypeInfo} {n0 s : Nat} {g : Bool} (hop : o.op = .makeSlice T1 x y) [i1 : TyI P T1 (.slice e) s g] (hi : P.info? e = some i) (hz : i.zero = some (.slice none 0 0)) (h1 : i.size = 1) (hb : Nat.ble (i.bytes * 1000) 281474976710656 = true) (hw : ∀ G, want (Rk R0 ops b o T G) ops o = some true) (hd : o.dst = some t) (hx : ∀ G, evR (Rk R0 ops b o T G) x = some (.int .i64 (n0 : Int))) (hy : ∀ G, evR (Rk R0 ops b o T G) y = some (.int .i64 (n0 : Int))) (hn : n0 ≤ 1000)
    (h : Chain ro S I P w0 n d ops R0 H0 Q bs (k + 1) rest (⟨k, some t, fun G => (.slice (some ⟨(G k).g, 0, none⟩) n0 n0, [.tabG encOf (rowOf enc kk e2) (G k).g (List.replicate n0 (nilOf : SlOf α))])⟩ :: T)) : CAt ro S I P w0 n d ops R0 H0 Q b bs k o rest T Hk := by
  refine c_row (f := fun G => (.slice (some ⟨(G k).g, 0, none⟩) n0 n0, [.tabG encOf (rowOf enc kk e2) (G k).g (List.replicate n0 (nilOf : SlOf α))])) (fun G G' hG => by simp only [hG k (.inl rfl)]) (fun G a w q K hK => ?_) (by rw [hd]; exact h)
  rw [want_ok q (hw G), if_pos rfl]
  unfold Oper.wp execOp; rw [hop]
  simp only [Sem.run_bind, q.ev (hx G), q.ev (hy G), run_make1 hi hz h1 rfl hb hn w, Result.andThen_ok, Sem.run_pure, Oper.upon_value]
  refine hK _ [.tabG encOf (rowOf enc kk e2) w.heap.size (List.replicate n0 (nilOf : SlOf α))] _ ⟨⟨w.heap.size, none, 0⟩, by simp only [upW, if_true]⟩ (below_alloc w _) ?_
  have h2 : Own w.heap.size (w.alloc (.cells (madeCells #[.slice none 0 0] n0) e)) [.blk w.heap.size (List.replicate n0 (.slice none 0 0))] := by
    have e3 : madeCells #[Value.slice none 0 0] n0 = (List.replicate n0 (Value.slice none 0 0)).toArray := by
      apply Array.ext'
      have := toList_madeCells_one (Value.slice none 0 0) n0
      rw [this]
    rw [e3]
    exact own_new w _ e
  have h3 : Own w.heap.size (w.alloc (.cells (madeCells #[.slice none 0 0] n0) e)) [.arr encOf 1 w.heap.size (List.replicate n0 (nilOf : SlOf α))] := h2.recast (fun hp => ⟨[], by rw [flat_nilOf, List.append_nil]; exact hp⟩) (fun b hb => hb)
  have h4 := own_nilRows (α := α) (enc := enc) (k := kk) (e := e2) (g := w.heap.size) n0 h3
  refine own_all.1 (h4.perm ?_)
  rw [List.append_nil]
  exact List.perm_append_comm
end
end Go.Proofs.YtdigopgncfhiaaaDoor.Two
/- Ice: what is to do: needs, hours that may be, hands. -/
namespace Go.Proofs.YtdigopgncfhiaaaDoor
open Go.RowKit
set_option linter.unusedSimpArgs false
set_option linter.unusedVariables false
set_option maxRecDepth 20000
def encBl (b : Bool) : List Value := [.bool b]
instance encI_bl : EncI encBl 1 := ⟨fun _ => rfl, fun b v hv => by simp [encBl] at hv; subst hv; rfl⟩
theorem elem_bo : Elem Tryd.prog 95 4 1 1 (.bool false) :=
  ⟨by rfl, by exact ⟨_, rfl, rfl, rfl, rfl⟩, by decide, by decide⟩
instance elI_bo : ElI Tryd.prog 95 4 1 1 := ⟨⟨_, elem_bo⟩⟩
def coldL (c : Cov) (h : Nat) : List Bool := (c.hours.take h).map (·.cold)
def mayL (c : Cov) : List (List Bool) := List.replicate c.beds.length (c.hours.map (·.cold))
def handO (u : Hour) : Int := if u.cold then u.crew else 0
def handsL (c : Cov) : List Int := c.hours.map handO
/-- hands so far -/
def handsN (c : Cov) (h : Nat) : List Int := (c.hours.take h).map handO ++ List.replicate (c.hours.length - h) 0
/-- rows of which i are longer by one -/
def mayN (c : Cov) (h i : Nat) : List (List Bool) := List.replicate i (coldL c (h + 1)) ++ List.replicate (c.beds.length - i) (coldL c h)
theorem coldL_len {c : Cov} {h : Nat} (hh : h ≤ c.hours.length) : (coldL c h).length = h := by simp [coldL]; omega
theorem coldL_succ {c : Cov} {h : Nat} {u : Hour} (hu : c.hours[h]? = some u) : coldL c (h + 1) = coldL c h ++ [u.cold] := by unfold coldL; rw [List.take_add_one, hu]; simp
theorem handsN_len {c : Cov} {h : Nat} (hh : h ≤ c.hours.length) : (handsN c h).length = c.hours.length := by simp [handsN]; omega
theorem handsN_set {c : Cov} {h : Nat} {u : Hour} (hu : c.hours[h]? = some u) : (handsN c h).set h (handO u) = handsN c (h + 1) := by
  obtain ⟨hi, e⟩ := List.getElem?_eq_some_iff.1 hu
  unfold handsN
  have hl : ((c.hours.take h).map handO).length = h := by simp; omega
  rw [List.set_append_right _ _ (by omega), hl, Nat.sub_self]
  have e1 : c.hours.take (h + 1) = c.hours.take h ++ [u] := by rw [List.take_add_one, hu]; rfl
  rw [e1, List.map_append, List.append_assoc]
  congr 1
  obtain ⟨m, hm⟩ : ∃ m, c.hours.length - h = m + 1 := ⟨c.hours.length - h - 1, by omega⟩
  rw [hm, show c.hours.length - (h + 1) = m by omega, List.replicate_succ]
  rfl
theorem handsN_same {c : Cov} {h : Nat} {u : Hour} (hu : c.hours[h]? = some u) (h0 : handO u = 0) : handsN c h = handsN c (h + 1) := by
  rw [← handsN_set hu, h0]
  obtain ⟨hi, e⟩ := List.getElem?_eq_some_iff.1 hu
  have : (handsN c h)[h]? = some 0 := by
    unfold handsN
    have hl : ((c.hours.take h).map handO).length = h := by simp; omega
    rw [List.getElem?_append_right (by omega), hl, List.getElem?_replicate, if_pos (by omega)]
  obtain ⟨h1, h2⟩ := List.getElem?_eq_some_iff.1 this
  conv => lhs; rw [← List.set_getElem_self h1]
  rw [h2]
theorem handsN_end {c : Cov} : handsN c c.hours.length = handsL c := by simp [handsN, handsL]
theorem handsN_zero {c : Cov} : handsN c 0 = List.replicate c.hours.length 0 := by simp [handsN]
theorem mayN_zero {c : Cov} {h : Nat} : mayN c h 0 = List.replicate c.beds.length (coldL c h) := by simp [mayN]
theorem mayN_end {c : Cov} {h : Nat} : mayN c h c.beds.length = List.replicate c.beds.length (coldL c (h + 1)) := by simp [mayN]
theorem mayN_at {c : Cov} {h i : Nat} (hi : i < c.beds.length) : (mayN c h i)[i]? = some (coldL c h) := by
  unfold mayN
  rw [List.getElem?_append_right (by simp), List.length_replicate, Nat.sub_self, List.getElem?_replicate, if_pos (by omega)]
theorem mayN_set {c : Cov} {h i : Nat} (hi : i < c.beds.length) : (mayN c h i).set i (coldL c (h + 1)) = mayN c h (i + 1) := by
  unfold mayN
  rw [List.set_append_right _ _ (by simp), List.length_replicate, Nat.sub_self]
  obtain ⟨m, hm⟩ : ∃ m, c.beds.length - i = m + 1 := ⟨c.beds.length - i - 1, by omega⟩
  rw [hm, show c.beds.length - (i + 1) = m by omega, List.replicate_succ, List.set_cons_zero, List.replicate_succ', List.append_assoc]
  rfl
end Go.Proofs.YtdigopgncfhiaaaDoor
namespace Go.Proofs.YtdigopgncfhiaaaDoor.Two
open Go.RowKit
set_option linter.unusedSimpArgs false
set_option linter.unusedVariables false
set_option maxRecDepth 20000
set_option maxHeartbeats 4000000 in
theorem iroster_any (c : Cov) (A : Option Addr) (ca : Nat) (B : Option Addr) (cb : Nat) (C : Option Addr) (cc g : Nat) (w : World) (hr : InC w g 0 (cellsCov c A ca B cb C cc)) (hG : InC w 0 0 limC) (h : CovAt w c A B C) (hs : Small c) (hf : Fine c) :
    Ret Tryd.prog 41 [.pointer (some ⟨g, 0, none⟩)] w (fun p : (Nat × List (SlOf Int)) × (Nat × List (SlOf Bool)) × Nat => .agg #[.slice (some ⟨p.1.1, 0, none⟩) c.beds.length c.beds.length, .slice (some ⟨p.2.1.1, 0, none⟩) c.beds.length c.beds.length, .slice (some ⟨p.2.2, 0, none⟩) c.hours.length c.hours.length])
      (fun p => [.tabG encOf (rowOf encI 1 3) p.1.1 p.1.2, .tabG encOf (rowOf encBl 1 4) p.2.1.1 p.2.1.2, .row encI 1 3 (.slice (some ⟨p.2.2, 0, none⟩) c.hours.length c.hours.length) (handsL c)]) (fun p => p.1.2.map (·.xs) = needsL c ∧ p.2.1.2.map (·.xs) = mayL c) := by
  have h4 := hs.b; have h5 := hs.h
  have hb := h.b; have hh := h.h
  have hnd := fun W (hb : Below w.heap.size w W) => ineeds_any c A ca B cb C cc g W (hr.below hb) (hG.below hb) (h.below hb) hs hf
  unfold cellsCov at hr
  (refine ret_enter (n := 68) Tryd.func41 rfl rfl rfl ?_)
  (repeat' (first | ((with_reducible refine isOps ?_); first | (refine u_alloc rfl rfl rfl rfl (fun b => ?_))) | (with_reducible first | refine u_seq ?_ | refine u_region ?_ | refine u_nil ?_ | refine u_then_n ?_)))
  (refine u_chain [] [] [] rfl (show ([] : List Nat).Nodup by decide) (H0 := [.blk b [.slice none 0 0, .slice none 0 0, .slice none 0 0]]) (fun _ h => h.sub (by (repeat (first | exact Out.nil _ | (refine Out.cons (by (repeat (first | exact Take.here _ _ | apply Take.there))) ?_))))) (by kernel_rfl) [[], [true], [false, false], [true, false, false], [true, true, false, false], [true, true, true, false, false], [true, true, true, true, false, false], [true, true, true, true, true, false, false], [true, true, true, true, true, true, false, false], [false, false, false, false, false, false, false, false, false], [true, false, false, false, false, false, false, false, false, false], [true, true, false, false, false, false, false, false, false, false, false], [true, true, true, false, false, false, false, false, false, false, false, false], [true, true, true, true, false, false, false, false, false, false, false, false, false], [true, true, true, true, true, false, false, false, false, false, false, false, false, false], [true, true, true, true, true, true, false, false, false, false, false, false, false, false, false], [true, true, true, true, true, true, true, true, true, true, true, true, true, true, true, true], [false, false, false, false, false, false, false, false, false, false, false, false, false, false, false, false, false], [true, true, true, true, true, true, true, true, true, true, true, true, true, true, true, true, true, true]] (by kernel_rfl) (by kernel_rfl) (by kernel_rfl) (by kernel_rfl) (by kernel_rfl) ?_)
  (repeat' (first | (((with_reducible refine c_go ?_ ?_); (· exact rfl); refine ⟨_, fun G => (by (try simp (decide := true) only [vis, see, fltT, entsT, Nat.reduceAdd, Nat.reduceSub, if_true, if_false, List.set_cons_zero, List.set_cons_succ, List.set_nil, List.nil_append, List.cons_append]); rfl), ?_⟩); first | refine c_val _ (fun _ => e_move rfl rfl) (fun _ => rfl) rfl (by first | exact fun _ _ _ => rfl | (intro G G' h; simp (decide := true) only [h])) ?_ | refine c_val _ (fun _ => e_load' rfl rfl (by exact rfl)) (fun _ => rfl) rfl (by first | exact fun _ _ _ => rfl | (intro G G' h; simp (decide := true) only [h])) ?_ | (refine c_isField rfl ?_; refine c_val _ (fun _ => e_field rfl rfl) (fun _ => rfl) rfl (by first | exact fun _ _ _ => rfl | (intro G G' h; simp (decide := true) only [h])) ?_) | (refine c_tab (enc := encI) (kk := 1) (e := 3) (nn := c.beds.length) needsL_len rfl (fun _ => rfl) rfl (fun _ => rfl) (fun _ => rfl) (fun _ _ _ q => hnd _ q.below) ?_) | (refine c_makeT (enc := encBl) (kk := 1) (e2 := 4) (n0 := c.beds.length) rfl rfl rfl rfl rfl (fun _ => rfl) rfl (fun _ => rfl) (fun _ => rfl) (by omega) ?_) | (refine c_makeR (enc := encI) (0 : Int) (n0 := c.hours.length) rfl rfl rfl rfl rfl rfl rfl (fun _ => rfl) rfl (fun _ => rfl) (fun _ => rfl) (by omega) ?_) | refine c_val _ (fun _ => e_len rfl rfl) (fun _ => rfl) rfl (by first | exact fun _ _ _ => rfl | (intro G G' h; simp (decide := true) only [h])) ?_ | refine c_val _ (fun _ => e_nilCheck rfl rfl) (fun _ => rfl) rfl (by first | exact fun _ _ _ => rfl | (intro G G' h; simp (decide := true) only [h])) ?_ | refine c_val _ (fun _ => e_build' rfl rfl (by exact rfl)) (fun _ => rfl) rfl (by first | exact fun _ _ _ => rfl | (intro G G' h; simp (decide := true) only [h])) ?_ | refine c_alloc rfl (fun _ => rfl) rfl ?_) | ((with_reducible refine c_tail ?_ ?_); (· exact rfl))))
  intro G
  simp only [regsT, List.nil_append, List.cons_append]
  refine u_own (H' := [.blk (G 17).g [.slice none 0 0, .slice none 0 0, .slice none 0 0], .row encI 1 3 (.slice (some ⟨(G 15).g, 0, none⟩) c.hours.length c.hours.length) (List.replicate c.hours.length 0), .tabG encOf (rowOf encBl 1 4) (G 8).g (List.replicate c.beds.length nilOf), .hidT encI 1 3 (G 1).g ((G 1).A.getD ⟨0, 0, none⟩).block (G 1).m (needsL c), .blk b [.slice none 0 0, .slice none 0 0, .slice none 0 0]]) (fun _ h => h) ?_
  simp only [Nat.zero_add, Nat.reduceAdd]
  generalize (G 17).g = gx
  generalize (G 15).g = gh
  generalize (G 8).g = gm
  generalize (G 1).m = hi
  generalize ((G 1).A.getD ⟨0, 0, none⟩).block = lo
  generalize (G 1).g = gn
  refine u_hidT (by (repeat (first | exact Take.here _ _ | apply Take.there))) (fun L hL => ?_)
  (repeat' (first | ((with_reducible refine isOps ?_); first | refine u_move rfl rfl rfl rfl rfl ?_ | (refine x_load rfl rfl rfl rfl rfl ?_; refine ⟨_, rfl, ?_⟩) | refine u_field rfl rfl rfl rfl rfl ?_ | refine u_len rfl rfl rfl rfl rfl ?_ | (refine x_store rfl rfl rfl rfl rfl ?_; refine And.intro rfl (And.intro (by first | decide | exact Nat.le_of_ble_eq_true rfl | (simp; omega)) ⟨_, rfl, ?_⟩)) | refine u_nilCheck rfl rfl rfl rfl rfl ?_) | (with_reducible first | refine u_seq ?_ | refine u_region ?_ | refine u_nil ?_ | refine u_then_n ?_ | refine u_block ?_)))
  obtain ⟨b2, hb2⟩ : ∃ b2, b2 = b := ⟨_, rfl⟩
  subst hb2
  refine u_loopP (ι := Nat × List (SlOf Bool)) [0, 2, 3, 28, 29] rfl (fun p => p.1 ≤ c.hours.length ∧ p.2.map (·.xs) = mayN c p.1 0) (fun p => [(30, .int .i64 (p.1 : Int))]) (fun p => [.tabG encOf (rowOf encBl 1 4) gm p.2, .row encI 1 3 (.slice (some ⟨gh, 0, none⟩) c.hours.length c.hours.length) (handsN c p.1), .tabG encOf (rowOf encI 1 3) gn L, .blk gx [.slice (some ⟨gn, 0, none⟩) c.beds.length c.beds.length, .slice (some ⟨gm, 0, none⟩) c.beds.length c.beds.length, .slice (some ⟨gh, 0, none⟩) c.hours.length c.hours.length], .blk b2 [.slice none 0 0, .slice none 0 0, .slice none 0 0]]) (fun p => c.hours.length - p.1) (0, List.replicate c.beds.length nilOf) ⟨Nat.zero_le _, by simp [mayN_zero, nilOf, coldL]⟩ (by (first | exact fun _ _ h => lk_nil h | (repeat (first | exact (fun _ _ h => lk_nil h) | (refine lk_sub rfl ?_))))) (by simp only [handsN_zero]; (repeat (first | exact Out.nil _ | (refine Out.cons (by (repeat (first | exact Take.here _ _ | apply Take.there))) ?_)))) ?_
  rintro ⟨j, M⟩ ⟨hj, hM⟩
  simp only at hj hM
  simp only [zipR, List.cons_append, List.nil_append]
  have hMl : M.length = c.beds.length := by
    have := congrArg List.length hM
    simp [mayN] at this; omega
  by_cases hjl : j < c.hours.length
  · obtain ⟨u, hu⟩ : ∃ u, c.hours[j]? = some u := ⟨_, List.getElem?_eq_getElem hjl⟩
    obtain ⟨bc, oc, rfl, _, _⟩ := hh.at_ hjl
    have : InS w bc oc encHour 5 c.hours := ⟨hh⟩
    have : GetI c.hours j u := ⟨hu⟩
    have hhl := handsN_len (c := c) (h := j) (by omega)
    have hcs := coldL_succ hu
    have hce := handsN_set hu
    have hcn := handsN_same hu
    have hcl := coldL_len (c := c) (h := j) (by omega)
    obtain ⟨um, ur, uc, cold⟩ := u
    unfold handO at hce hcn
    simp only at hce hcn hcs
    cases cold
    · simp only [Bool.false_eq_true, if_false] at hce hcn
      rw [hcn trivial]
      (repeat' (first | ((with_reducible refine isOps ?_); first | refine u_move rfl rfl rfl rfl rfl ?_ | refine u_assign rfl rfl rfl rfl rfl ?_ | (refine x_load rfl rfl rfl rfl rfl ?_; refine ⟨_, rfl, ?_⟩) | refine u_field rfl rfl rfl rfl rfl ?_ | (refine u_cmp rfl rfl rfl rfl rfl rfl rfl (fun h => ?_) (fun h => ?_) <;> (dsimp only [cmpP] at h; (try (exfalso; omega)))) | refine u_index rfl rfl rfl rfl rfl rfl rfl (by omega) ?_ | refine u_len rfl rfl rfl rfl rfl ?_ | (refine x_store rfl rfl rfl rfl rfl ?_; refine And.intro rfl (And.intro (by first | decide | exact Nat.le_of_ble_eq_true rfl | (simp; omega)) ⟨_, rfl, ?_⟩)) | (refine u_alloc rfl rfl rfl rfl (fun b => ?_)) | refine u_nilCheck rfl rfl rfl rfl rfl ?_) | (with_reducible first | refine u_seq ?_ | refine u_region ?_ | refine u_nil ?_ | refine u_then_n ?_ | refine u_skip ?_ | refine u_block ?_) | ((with_reducible refine u_cond_t ?_ ?_); (· exact rfl)) | ((with_reducible refine u_cond_f ?_ ?_); (· exact rfl))))
      obtain ⟨b5, hb5⟩ : ∃ b5, b5 = b := ⟨_, rfl⟩
      subst hb5
      refine u_loopP (ι := Nat × List (SlOf Bool)) [0, 2, 3, 5, 28, 29, 30, 48] rfl (fun p => p.1 ≤ c.beds.length ∧ p.2.map (·.xs) = mayN c j p.1) (fun p => [(49, .int .i64 (p.1 : Int))]) (fun p => [.tabG encOf (rowOf encBl 1 4) gm p.2, .row encI 1 3 (.slice (some ⟨gh, 0, none⟩) c.hours.length c.hours.length) (handsN c (j + 1)), .tabG encOf (rowOf encI 1 3) gn L, .blk gx [.slice (some ⟨gn, 0, none⟩) c.beds.length c.beds.length, .slice (some ⟨gm, 0, none⟩) c.beds.length c.beds.length, .slice (some ⟨gh, 0, none⟩) c.hours.length c.hours.length], .blk b5 (encHour ⟨um, ur, uc, false⟩), .blk b2 [.slice none 0 0, .slice none 0 0, .slice none 0 0]]) (fun p => c.beds.length - p.1) (0, M) ⟨Nat.zero_le _, hM⟩ (by (first | exact fun _ _ h => lk_nil h | (repeat (first | exact (fun _ _ h => lk_nil h) | (refine lk_sub rfl ?_))))) (by (repeat (first | exact Out.nil _ | (refine Out.cons (by (repeat (first | exact Take.here _ _ | apply Take.there))) ?_)))) ?_
      rintro ⟨i, M⟩ ⟨hi, hM⟩
      simp only at hi hM
      simp only [zipR, List.cons_append, List.nil_append]
      have hMl : M.length = c.beds.length := by
        have := congrArg List.length hM
        simp [mayN] at this; omega
      by_cases hil : i < c.beds.length
      · obtain ⟨s, hs1⟩ : ∃ s, M[i]? = some s := ⟨_, List.getElem?_eq_getElem (by omega)⟩
        have hsx : s.xs = coldL c j := by
          have h1 := mayN_at (c := c) (h := j) hil
          rw [← hM, List.getElem?_map, hs1] at h1
          exact Option.some.inj h1
        have hsl : s.xs.length ≤ 12 := by rw [hsx, hcl]; omega
        (repeat' (first | ((with_reducible refine isOps ?_); first | refine u_move rfl rfl rfl rfl rfl ?_ | refine u_assign rfl rfl rfl rfl rfl ?_ | (refine u_cmp rfl rfl rfl rfl rfl rfl rfl (fun h => ?_) (fun h => ?_) <;> (dsimp only [cmpP] at h; (try (exfalso; omega))))) | (with_reducible first | refine u_seq ?_ | refine u_region ?_ | refine u_nil ?_ | refine u_then_n ?_ | refine u_skip ?_ | refine u_block ?_) | ((with_reducible refine u_cond_t ?_ ?_); (· exact rfl))))
        refine u_tabOpen i hs1 (by (repeat (first | exact Take.here _ _ | apply Take.there))) ?_
        have : GetI (M.set i s) i s := ⟨List.getElem?_set_self (by omega)⟩
        simp only [rowOf]
        (refine u_chain [] [(11, 0, 0, [.row encBl 1 4 (.slice s.A s.xs.length s.c) s.xs])] [(11, 0, 0)] rfl (show ([11] : List Nat).Nodup by decide) (H0 := [.arr encOf 1 gm (M.set i s), .blk gx [.slice (some ⟨gn, 0, none⟩) c.beds.length c.beds.length, .slice (some ⟨gm, 0, none⟩) c.beds.length c.beds.length, .slice (some ⟨gh, 0, none⟩) c.hours.length c.hours.length], .blk b5 (encHour ⟨um, ur, uc, false⟩), .all ((M.eraseIdx i).map (rowOf encBl 1 4)), .row encI 1 3 (.slice (some ⟨gh, 0, none⟩) c.hours.length c.hours.length) (handsN c (j + 1)), .tabG encOf (rowOf encI 1 3) gn L, .blk b2 [.slice none 0 0, .slice none 0 0, .slice none 0 0]]) (fun _ h => h.sub (by (repeat (first | exact Out.nil _ | (refine Out.cons (by (repeat (first | exact Take.here _ _ | apply Take.there))) ?_))))) (by kernel_rfl) [[], [true], [false, false], [false, false, false], [true, false, false, false], [false, false, false, false, false], [true, true, true, false, false, false], [true, true, true, true, false, false, false], [false, false, false, false, false, false, false, false], [true, false, false, false, false, false, false, false, false], [true, true, false, false, false, false, false, false, false, false], [true, true, true, true, true, true, true, true, false, false, false], [true, true, true, true, true, true, true, true, true, true, true, true], [true, true, true, true, true, true, true, true, true, true, true, true, true]] (by kernel_rfl) (by kernel_rfl) (by kernel_rfl) (by kernel_rfl) (by kernel_rfl) ?_)
        (repeat' (first | (((with_reducible refine c_go ?_ ?_); (· exact rfl); refine ⟨_, fun G => (by (try simp (decide := true) only [vis, see, fltT, entsT, Nat.reduceAdd, Nat.reduceSub, if_true, if_false, List.set_cons_zero, List.set_cons_succ, List.set_nil, List.nil_append, List.cons_append]); rfl), ?_⟩); first | refine c_val _ (fun _ => e_move rfl rfl) (fun _ => rfl) rfl (by first | exact fun _ _ _ => rfl | (intro G G' h; simp (decide := true) only [h])) ?_ | refine c_val _ (fun _ => e_load' rfl rfl (by exact rfl)) (fun _ => rfl) rfl (by first | exact fun _ _ _ => rfl | (intro G G' h; simp (decide := true) only [h])) ?_ | (refine c_isField rfl ?_; refine c_val _ (fun _ => e_field rfl rfl) (fun _ => rfl) rfl (by first | exact fun _ _ _ => rfl | (intro G G' h; simp (decide := true) only [h])) ?_) | refine c_val _ (fun _ => e_index rfl rfl rfl rfl (by omega)) (fun _ => rfl) rfl (by first | exact fun _ _ _ => rfl | (intro G G' h; simp (decide := true) only [h])) ?_ | refine c_buildSlice rfl (fun _ => rfl) rfl (fun _ => rfl) (by exact rfl) (by exact fun _ => rfl) (by first | exact fun _ _ _ => rfl | (intro G G' h; simp (decide := true) only [h])) ?_) | (refine c_appendI (enc := encBl) (xs := s.xs) (vx := .slice s.A s.xs.length s.c) [false] List.mem_cons_self rfl rfl (fun _ => rfl) rfl (fun _ => rfl) (fun _ => rfl) rfl (fun G => (by (try simp (decide := true) only [vis, see, fltT, entsT, Nat.reduceAdd, Nat.reduceSub, if_true, if_false, List.set_cons_zero, List.set_cons_succ, List.set_nil, List.nil_append, List.cons_append]); rfl)) (fun _ W hW h => src_one (enc := encBl) (by exact rfl) W hW h) ⟨by simp; omega, by decide⟩ ?_) | ((with_reducible refine c_tail ?_ ?_); (· exact rfl))))
        intro G
        simp only [regsT, List.nil_append, List.cons_append]
        refine u_own (H' := [.row encBl 1 4 (.slice (G 11).A (s.xs ++ [false]).length (G 11).m) (s.xs ++ [false]), .arr encOf 1 gm (M.set i s), .blk gx [.slice (some ⟨gn, 0, none⟩) c.beds.length c.beds.length, .slice (some ⟨gm, 0, none⟩) c.beds.length c.beds.length, .slice (some ⟨gh, 0, none⟩) c.hours.length c.hours.length], .blk b5 (encHour ⟨um, ur, uc, false⟩), .all ((M.eraseIdx i).map (rowOf encBl 1 4)), .row encI 1 3 (.slice (some ⟨gh, 0, none⟩) c.hours.length c.hours.length) (handsN c (j + 1)), .tabG encOf (rowOf encI 1 3) gn L, .blk b2 [.slice none 0 0, .slice none 0 0, .slice none 0 0]]) (fun _ h => h.sub (by (repeat (first | exact Out.nil _ | (refine Out.cons (by (repeat (first | exact Take.here _ _ | apply Take.there))) ?_))))) ?_
        (repeat' (first | ((with_reducible refine isOps ?_); first | refine u_move rfl rfl rfl rfl rfl ?_ | refine u_storeL (i := i) (s := s) ⟨(G 11).A, s.xs ++ [false], (G 11).m⟩ rfl rfl rfl rfl rfl rfl (by (repeat (first | exact Take.here _ _ | apply Take.there))) (by omega) ?_ | refine u_add1 rfl rfl rfl rfl rfl rfl (by omega) ?_) | (with_reducible first | refine u_region ?_ | refine u_nil ?_ | refine u_then_n ?_ | refine u_in_n ?_)))
        refine u_tabShut i (re := rowOf encBl 1 4) ⟨(G 11).A, s.xs ++ [false], (G 11).m⟩ hs1 (by (repeat (first | exact Take.here _ _ | apply Take.there))) (by (repeat (first | exact Take.here _ _ | apply Take.there))) (by (repeat (first | exact Take.here _ _ | apply Take.there))) ?_
        refine u_again (i + 1, M.set i ⟨(G 11).A, s.xs ++ [false], (G 11).m⟩) ⟨by simp only; omega, ?_⟩ (by simp only; omega) (by (first | exact fun _ _ h => lk_nil h | (repeat (first | exact (fun _ _ h => lk_nil h) | (refine lk_sub rfl ?_))))) (by (repeat (first | exact Out.nil _ | (refine Out.cons (by (repeat (first | exact Take.here _ _ | apply Take.there))) ?_))))
        simp only
        rw [List.map_set, hM, hsx, ← hcs, mayN_set hil]
      · obtain rfl : i = c.beds.length := by omega
        (repeat' (first | ((with_reducible refine isOps ?_); first | refine u_move rfl rfl rfl rfl rfl ?_ | (refine u_cmp rfl rfl rfl rfl rfl rfl rfl (fun h => ?_) (fun h => ?_) <;> (dsimp only [cmpP] at h; (try (exfalso; omega)))) | refine u_add1 rfl rfl rfl rfl rfl rfl (by omega) ?_) | (with_reducible first | refine u_seq ?_ | refine u_region ?_ | refine u_nil ?_ | refine u_then_n ?_ | refine u_exit ?_ | refine u_in_n ?_ | refine u_in_same ?_ | refine u_then_e ?_) | ((with_reducible refine u_cond_f ?_ ?_); (· exact rfl))))
        refine u_again (j + 1, M) ⟨by simp only; omega, ?_⟩ (by simp only; omega) (by (first | exact fun _ _ h => lk_nil h | (repeat (first | exact (fun _ _ h => lk_nil h) | (refine lk_sub rfl ?_))))) (by (repeat (first | exact Out.nil _ | (refine Out.cons (by (repeat (first | exact Take.here _ _ | apply Take.there))) ?_))))
        simp only
        rw [hM, mayN_end, mayN_zero]

    · simp only [if_true] at hce
      (repeat' (first | ((with_reducible refine isOps ?_); first | refine u_move rfl rfl rfl rfl rfl ?_ | refine u_assign rfl rfl rfl rfl rfl ?_ | (refine x_load rfl rfl rfl rfl rfl ?_; refine ⟨_, rfl, ?_⟩) | refine u_field rfl rfl rfl rfl rfl ?_ | (refine u_cmp rfl rfl rfl rfl rfl rfl rfl (fun h => ?_) (fun h => ?_) <;> (dsimp only [cmpP] at h; (try (exfalso; omega)))) | refine u_storeR (enc := encI) (i := j) uc rfl rfl rfl rfl rfl rfl rfl rfl (by omega) ?_ | refine u_index rfl rfl rfl rfl rfl rfl rfl (by omega) ?_ | refine u_len rfl rfl rfl rfl rfl ?_ | (refine x_store rfl rfl rfl rfl rfl ?_; refine And.intro rfl (And.intro (by first | decide | exact Nat.le_of_ble_eq_true rfl | (simp; omega)) ⟨_, rfl, ?_⟩)) | (refine u_alloc rfl rfl rfl rfl (fun b => ?_)) | refine u_nilCheck rfl rfl rfl rfl rfl ?_) | (with_reducible first | refine u_seq ?_ | refine u_region ?_ | refine u_nil ?_ | refine u_then_n ?_ | refine u_skip ?_ | refine u_block ?_) | ((with_reducible refine u_cond_t ?_ ?_); (· exact rfl))))
      rw [hce]
      obtain ⟨b5, hb5⟩ : ∃ b5, b5 = b := ⟨_, rfl⟩
      subst hb5
      refine u_loopP (ι := Nat × List (SlOf Bool)) [0, 2, 3, 5, 28, 29, 30, 48] rfl (fun p => p.1 ≤ c.beds.length ∧ p.2.map (·.xs) = mayN c j p.1) (fun p => [(49, .int .i64 (p.1 : Int))]) (fun p => [.tabG encOf (rowOf encBl 1 4) gm p.2, .row encI 1 3 (.slice (some ⟨gh, 0, none⟩) c.hours.length c.hours.length) (handsN c (j + 1)), .tabG encOf (rowOf encI 1 3) gn L, .blk gx [.slice (some ⟨gn, 0, none⟩) c.beds.length c.beds.length, .slice (some ⟨gm, 0, none⟩) c.beds.length c.beds.length, .slice (some ⟨gh, 0, none⟩) c.hours.length c.hours.length], .blk b5 (encHour ⟨um, ur, uc, true⟩), .blk b2 [.slice none 0 0, .slice none 0 0, .slice none 0 0]]) (fun p => c.beds.length - p.1) (0, M) ⟨Nat.zero_le _, hM⟩ (by (first | exact fun _ _ h => lk_nil h | (repeat (first | exact (fun _ _ h => lk_nil h) | (refine lk_sub rfl ?_))))) (by (repeat (first | exact Out.nil _ | (refine Out.cons (by (repeat (first | exact Take.here _ _ | apply Take.there))) ?_)))) ?_
      rintro ⟨i, M⟩ ⟨hi, hM⟩
      simp only at hi hM
      simp only [zipR, List.cons_append, List.nil_append]
      have hMl : M.length = c.beds.length := by
        have := congrArg List.length hM
        simp [mayN] at this; omega
      by_cases hil : i < c.beds.length
      · obtain ⟨s, hs1⟩ : ∃ s, M[i]? = some s := ⟨_, List.getElem?_eq_getElem (by omega)⟩
        have hsx : s.xs = coldL c j := by
          have h1 := mayN_at (c := c) (h := j) hil
          rw [← hM, List.getElem?_map, hs1] at h1
          exact Option.some.inj h1
        have hsl : s.xs.length ≤ 12 := by rw [hsx, hcl]; omega
        (repeat' (first | ((with_reducible refine isOps ?_); first | refine u_move rfl rfl rfl rfl rfl ?_ | refine u_assign rfl rfl rfl rfl rfl ?_ | (refine u_cmp rfl rfl rfl rfl rfl rfl rfl (fun h => ?_) (fun h => ?_) <;> (dsimp only [cmpP] at h; (try (exfalso; omega))))) | (with_reducible first | refine u_seq ?_ | refine u_region ?_ | refine u_nil ?_ | refine u_then_n ?_ | refine u_skip ?_ | refine u_block ?_) | ((with_reducible refine u_cond_t ?_ ?_); (· exact rfl))))
        refine u_tabOpen i hs1 (by (repeat (first | exact Take.here _ _ | apply Take.there))) ?_
        have : GetI (M.set i s) i s := ⟨List.getElem?_set_self (by omega)⟩
        simp only [rowOf]
        (refine u_chain [] [(11, 0, 0, [.row encBl 1 4 (.slice s.A s.xs.length s.c) s.xs])] [(11, 0, 0)] rfl (show ([11] : List Nat).Nodup by decide) (H0 := [.arr encOf 1 gm (M.set i s), .blk gx [.slice (some ⟨gn, 0, none⟩) c.beds.length c.beds.length, .slice (some ⟨gm, 0, none⟩) c.beds.length c.beds.length, .slice (some ⟨gh, 0, none⟩) c.hours.length c.hours.length], .blk b5 (encHour ⟨um, ur, uc, true⟩), .all ((M.eraseIdx i).map (rowOf encBl 1 4)), .row encI 1 3 (.slice (some ⟨gh, 0, none⟩) c.hours.length c.hours.length) (handsN c (j + 1)), .tabG encOf (rowOf encI 1 3) gn L, .blk b2 [.slice none 0 0, .slice none 0 0, .slice none 0 0]]) (fun _ h => h.sub (by (repeat (first | exact Out.nil _ | (refine Out.cons (by (repeat (first | exact Take.here _ _ | apply Take.there))) ?_))))) (by kernel_rfl) [[], [true], [false, false], [false, false, false], [true, false, false, false], [false, false, false, false, false], [true, true, true, false, false, false], [true, true, true, true, false, false, false], [false, false, false, false, false, false, false, false], [true, false, false, false, false, false, false, false, false], [true, true, false, false, false, false, false, false, false, false], [true, true, true, true, true, true, true, true, false, false, false], [true, true, true, true, true, true, true, true, true, true, true, true], [true, true, true, true, true, true, true, true, true, true, true, true, true]] (by kernel_rfl) (by kernel_rfl) (by kernel_rfl) (by kernel_rfl) (by kernel_rfl) ?_)
        (repeat' (first | (((with_reducible refine c_go ?_ ?_); (· exact rfl); refine ⟨_, fun G => (by (try simp (decide := true) only [vis, see, fltT, entsT, Nat.reduceAdd, Nat.reduceSub, if_true, if_false, List.set_cons_zero, List.set_cons_succ, List.set_nil, List.nil_append, List.cons_append]); rfl), ?_⟩); first | refine c_val _ (fun _ => e_move rfl rfl) (fun _ => rfl) rfl (by first | exact fun _ _ _ => rfl | (intro G G' h; simp (decide := true) only [h])) ?_ | refine c_val _ (fun _ => e_load' rfl rfl (by exact rfl)) (fun _ => rfl) rfl (by first | exact fun _ _ _ => rfl | (intro G G' h; simp (decide := true) only [h])) ?_ | (refine c_isField rfl ?_; refine c_val _ (fun _ => e_field rfl rfl) (fun _ => rfl) rfl (by first | exact fun _ _ _ => rfl | (intro G G' h; simp (decide := true) only [h])) ?_) | refine c_val _ (fun _ => e_index rfl rfl rfl rfl (by omega)) (fun _ => rfl) rfl (by first | exact fun _ _ _ => rfl | (intro G G' h; simp (decide := true) only [h])) ?_ | refine c_buildSlice rfl (fun _ => rfl) rfl (fun _ => rfl) (by exact rfl) (by exact fun _ => rfl) (by first | exact fun _ _ _ => rfl | (intro G G' h; simp (decide := true) only [h])) ?_) | (refine c_appendI (enc := encBl) (xs := s.xs) (vx := .slice s.A s.xs.length s.c) [true] List.mem_cons_self rfl rfl (fun _ => rfl) rfl (fun _ => rfl) (fun _ => rfl) rfl (fun G => (by (try simp (decide := true) only [vis, see, fltT, entsT, Nat.reduceAdd, Nat.reduceSub, if_true, if_false, List.set_cons_zero, List.set_cons_succ, List.set_nil, List.nil_append, List.cons_append]); rfl)) (fun _ W hW h => src_one (enc := encBl) (by exact rfl) W hW h) ⟨by simp; omega, by decide⟩ ?_) | ((with_reducible refine c_tail ?_ ?_); (· exact rfl))))
        intro G
        simp only [regsT, List.nil_append, List.cons_append]
        refine u_own (H' := [.row encBl 1 4 (.slice (G 11).A (s.xs ++ [true]).length (G 11).m) (s.xs ++ [true]), .arr encOf 1 gm (M.set i s), .blk gx [.slice (some ⟨gn, 0, none⟩) c.beds.length c.beds.length, .slice (some ⟨gm, 0, none⟩) c.beds.length c.beds.length, .slice (some ⟨gh, 0, none⟩) c.hours.length c.hours.length], .blk b5 (encHour ⟨um, ur, uc, true⟩), .all ((M.eraseIdx i).map (rowOf encBl 1 4)), .row encI 1 3 (.slice (some ⟨gh, 0, none⟩) c.hours.length c.hours.length) (handsN c (j + 1)), .tabG encOf (rowOf encI 1 3) gn L, .blk b2 [.slice none 0 0, .slice none 0 0, .slice none 0 0]]) (fun _ h => h.sub (by (repeat (first | exact Out.nil _ | (refine Out.cons (by (repeat (first | exact Take.here _ _ | apply Take.there))) ?_))))) ?_
        (repeat' (first | ((with_reducible refine isOps ?_); first | refine u_move rfl rfl rfl rfl rfl ?_ | refine u_storeL (i := i) (s := s) ⟨(G 11).A, s.xs ++ [true], (G 11).m⟩ rfl rfl rfl rfl rfl rfl (by (repeat (first | exact Take.here _ _ | apply Take.there))) (by omega) ?_ | refine u_add1 rfl rfl rfl rfl rfl rfl (by omega) ?_) | (with_reducible first | refine u_region ?_ | refine u_nil ?_ | refine u_then_n ?_ | refine u_in_n ?_)))
        refine u_tabShut i (re := rowOf encBl 1 4) ⟨(G 11).A, s.xs ++ [true], (G 11).m⟩ hs1 (by (repeat (first | exact Take.here _ _ | apply Take.there))) (by (repeat (first | exact Take.here _ _ | apply Take.there))) (by (repeat (first | exact Take.here _ _ | apply Take.there))) ?_
        refine u_again (i + 1, M.set i ⟨(G 11).A, s.xs ++ [true], (G 11).m⟩) ⟨by simp only; omega, ?_⟩ (by simp only; omega) (by (first | exact fun _ _ h => lk_nil h | (repeat (first | exact (fun _ _ h => lk_nil h) | (refine lk_sub rfl ?_))))) (by (repeat (first | exact Out.nil _ | (refine Out.cons (by (repeat (first | exact Take.here _ _ | apply Take.there))) ?_))))
        simp only
        rw [List.map_set, hM, hsx, ← hcs, mayN_set hil]
      · obtain rfl : i = c.beds.length := by omega
        (repeat' (first | ((with_reducible refine isOps ?_); first | refine u_move rfl rfl rfl rfl rfl ?_ | (refine u_cmp rfl rfl rfl rfl rfl rfl rfl (fun h => ?_) (fun h => ?_) <;> (dsimp only [cmpP] at h; (try (exfalso; omega)))) | refine u_add1 rfl rfl rfl rfl rfl rfl (by omega) ?_) | (with_reducible first | refine u_seq ?_ | refine u_region ?_ | refine u_nil ?_ | refine u_then_n ?_ | refine u_exit ?_ | refine u_in_n ?_ | refine u_in_same ?_ | refine u_then_e ?_) | ((with_reducible refine u_cond_f ?_ ?_); (· exact rfl))))
        refine u_again (j + 1, M) ⟨by simp only; omega, ?_⟩ (by simp only; omega) (by (first | exact fun _ _ h => lk_nil h | (repeat (first | exact (fun _ _ h => lk_nil h) | (refine lk_sub rfl ?_))))) (by (repeat (first | exact Out.nil _ | (refine Out.cons (by (repeat (first | exact Take.here _ _ | apply Take.there))) ?_))))
        simp only
        rw [hM, mayN_end, mayN_zero]

  · obtain rfl : j = c.hours.length := by omega
    (repeat' (first | ((with_reducible refine isOps ?_); first | (refine x_load rfl rfl rfl rfl rfl ?_; refine ⟨_, rfl, ?_⟩) | (refine u_cmp rfl rfl rfl rfl rfl rfl rfl (fun h => ?_) (fun h => ?_) <;> (dsimp only [cmpP] at h; (try (exfalso; omega)))) | (refine x_store rfl rfl rfl rfl rfl ?_; refine And.intro rfl (And.intro (by first | decide | exact Nat.le_of_ble_eq_true rfl | (simp; omega)) ⟨_, rfl, ?_⟩))) | (with_reducible first | refine u_seq ?_ | refine u_region ?_ | refine u_nil ?_ | refine u_then_n ?_ | refine u_ret ?_ | refine u_exit ?_ | refine u_in_same ?_ | refine u_then_e ?_) | ((with_reducible refine u_cond_f ?_ ?_); (· exact rfl))))
    refine u_done (by (exact ResL.cons (by exact res1c rfl (by exact rfl)) ResL.nil)) ((gn, L), (gm, M), gh) ⟨hL, ?_⟩ rfl (fun _ h => ?_)
    · simp only; rw [hM, mayN_zero]; simp [coldL, mayL]
    · rw [← handsN_end]; exact h.sub (by (repeat (first | exact Out.nil _ | (refine Out.cons (by (repeat (first | exact Take.here _ _ | apply Take.there))) ?_))))
end Go.Proofs.YtdigopgncfhiaaaDoor.Two
