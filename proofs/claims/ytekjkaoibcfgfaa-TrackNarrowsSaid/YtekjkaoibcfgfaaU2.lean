/- Calls, loops, rows that grow, entry and return. -/
import Derived.Test.YtekjkaoibcfgfaaU1
namespace Go.Proofs.Ytekjkaoibcfgfaa
open Go.RowKit
set_option linter.unusedSimpArgs false
set_option linter.unusedVariables false

/-- how values lie in k cells each -/
class EncI {α : Type} (enc : α → List Value) (k : outParam Nat) : Prop where
  len : ∀ x, (enc x).length = k
  one : ∀ x, ∀ u ∈ enc x, u.oneCell' = true
class ElI (P : Program) (T : TypeId) (e k b : outParam Nat) : Prop where
  el : ∃ z, Elem P T e k b z

/-- What a call returns: V x for some x of which p, with new memory E x; what was there is as it was. -/
def RetQ {α : Type} (w : World) (V : α → Value) (E : α → List Ent) (p : α → Prop) (e : Ending) (w' : World) : Prop :=
  ∃ x, p x ∧ e = .returned (V x) ∧ Below w.heap.size w w' ∧ Own w.heap.size w' (E x)
def Ret (P : Program) (f : FuncId) (args : List Value) (w : World) {α : Type} (V : α → Value) (E : α → List Ent) (p : α → Prop) : Prop :=
  Calls P f args.toArray w (RetQ w V E p)
/-- just a value -/
def Gv (P : Program) (f : FuncId) (args : List Value) (w : World) (v : Value) : Prop := Ret P f args w (fun _ : Unit => v) (fun _ => []) (fun _ => True)
theorem Gives.gv {f : FuncId} {args : List Value} {w : World} {v : Value} (h : Gives f args.toArray w v) : Gv Try.prog f args w v :=
  h.mono fun _ _ ⟨he, hb⟩ => ⟨(), trivial, he, hb, Own.nil _ _⟩
theorem Gv.gives {f : FuncId} {args : List Value} {w : World} {v : Value} (h : Gv Try.prog f args w v) : Gives f args.toArray w v :=
  Calls.mono h fun _ _ ⟨_, _, he, hb, _⟩ => ⟨he, hb⟩
/-- a new slice of xs -/
def NewSl {α : Type} (enc : α → List Value) (k : Nat) (xs : List α) (V : Value → Value) (P : Program) (f : FuncId) (args : List Value) (w : World) : Prop :=
  Ret P f args w (fun p : Option Addr × Nat => V (.slice p.1 xs.length p.2)) (fun p => [.sl enc k p.1 xs]) (fun _ => True)

theorem Ret.calls {P : Program} {f : FuncId} {args : List Value} {w : World} {α : Type} {V : α → Value} {E : α → List Ent} {p : α → Prop} (h : Ret P f args w V E p) : Calls P f args.toArray w (RetQ w V E p) := h
theorem Ret.of {P : Program} {f : FuncId} {args : List Value} {w : World} {α : Type} {V : α → Value} {E : α → List Ent} {p : α → Prop} (h : Calls P f args.toArray w (RetQ w V E p)) : Ret P f args w V E p := h
theorem Gv.ret {P : Program} {f : FuncId} {args : List Value} {w : World} {v : Value} (h : Gv P f args w v) : Ret P f args w (fun _ : Unit => v) (fun _ => []) (fun _ => True) := h
theorem NewSl.ret {α : Type} {enc : α → List Value} {k : Nat} {xs : List α} {V : Value → Value} {P : Program} {f : FuncId} {args : List Value} {w : World} (h : NewSl enc k xs V P f args w) : Ret P f args w (fun p : Option Addr × Nat => V (.slice p.1 xs.length p.2)) (fun p => [.sl enc k p.1 xs]) (fun _ => True) := h
attribute [irreducible] Gv NewSl Ret
section
variable {P : Program} {w0 : World} {n : Nat} {d : List Deferred} {R R' : List (Nat × Value)} {H H' H1 H2 : List Ent} {Q : Exit → Act → World → Prop} {ops : Array Oper} {rest : List Oper} {o : Oper} {t : Tmp} {x y : Operand} {v u : Value} {X : Act → World → Prop}

theorem u_call {f : FuncId} {fx : Operand} {xs : Array Operand} {ts : Array TypeId} {vs : List Value} {cap : Array Value} {α : Type} {V : α → Value} {E : α → List Ent} {p : α → Prop} (hop : o.op = .call ⟨.value fx, xs, ts⟩) (hw : want R ops o = some true) (hd : o.dst = some t) (ht : Nat.blt t n = true) (hf : evR R fx = some (.func (.func f) #[] cap)) (hx : evs R xs.toList = some vs) [ci : CallI P f]
    (hc : ∀ a w, Kn w0 n d R H a w → Ret P f (vs ++ cap.toList) w V E p) (h : ∀ x, p x → U w0 n d ((t, V x) :: R) (E x ++ H) (wpList P ops Q rest)) : U w0 n d R H (wpList P ops Q (o :: rest)) :=
  u_op hw fun a w q K hK => by
    unfold Oper.wp execOp; rw [hop]
    have e1 : xs.map a.eval = vs.toArray := by apply Array.ext'; simpa using q.evs hx
    have e2 : vs.toArray ++ cap = (vs ++ cap.toList).toArray := by apply Array.ext'; simp
    simp only [resolve, q.ev hf, e1, Deferred.ofValue, Sem.run_bind, Sem.run_pure, Result.andThen_ok, invoke, Array.empty_append, e2, ci.ent, Oper.upon_enter, hd]
    refine Calls.mono (hc a w q).calls ?_
    rintro e w' ⟨z, hp, rfl, hb, hE⟩
    exact hK _ _ (h z hp _ _ ((q.call hb hE).put ht))
theorem u_gives {f : FuncId} {fx : Operand} {xs : Array Operand} {ts : Array TypeId} {vs : List Value} {cap : Array Value} (hop : o.op = .call ⟨.value fx, xs, ts⟩) (hw : want R ops o = some true) (hd : o.dst = some t) (ht : Nat.blt t n = true) (hf : evR R fx = some (.func (.func f) #[] cap)) (hx : evs R xs.toList = some vs) [ci : CallI P f]
    (hc : ∀ a w, Kn w0 n d R H a w → Gv P f (vs ++ cap.toList) w v) (h : U w0 n d ((t, v) :: R) H (wpList P ops Q rest)) : U w0 n d R H (wpList P ops Q (o :: rest)) :=
  u_call hop hw hd ht hf hx (fun a w q => (hc a w q).ret) (fun _ _ => h)
theorem u_givesB {b : Bool} {f : FuncId} {fx : Operand} {xs : Array Operand} {ts : Array TypeId} {vs : List Value} {cap : Array Value} (hop : o.op = .call ⟨.value fx, xs, ts⟩) (hw : want R ops o = some true) (hd : o.dst = some t) (ht : Nat.blt t n = true) (hf : evR R fx = some (.func (.func f) #[] cap)) (hx : evs R xs.toList = some vs) [ci : CallI P f]
    (hc : ∀ a w, Kn w0 n d R H a w → Gv P f (vs ++ cap.toList) w (.bool b)) (h1 : b = true → U w0 n d ((t, .bool true) :: R) H (wpList P ops Q rest)) (h2 : b = false → U w0 n d ((t, .bool false) :: R) H (wpList P ops Q rest)) : U w0 n d R H (wpList P ops Q (o :: rest)) := by
  cases b
  · exact u_gives hop hw hd ht hf hx hc (h2 rfl)
  · exact u_gives hop hw hd ht hf hx hc (h1 rfl)

theorem wp_loop_k {ι : Type} {c : Code} {a : Act} {w : World} (I : ι → Prop) (Rf : ι → List (Nat × Value)) (Hf : ι → List Ent) (μ : ι → Nat) {m : Nat}
  (body : ∀ i, I i → U w0 n d (Rf i) (Hf i) (c.wp P (Exit.then (fun a w => ∃ j, I j ∧ μ j < μ i ∧ Kn w0 n d (Rf j) (Hf j) a w) Q))) (h : ∃ i, I i ∧ μ i = m ∧ Kn w0 n d (Rf i) (Hf i) a w) : (Code.loop c).wp P Q a w := by
  refine wp_loop_ghost (P := P) (Q := Q) (c := c) (fun m a w => ∃ i, I i ∧ μ i = m ∧ Kn w0 n d (Rf i) (Hf i) a w) m h ?_
  rintro m a w ⟨i, hi, hm, hk⟩
  refine Code.wp_mono ?_ (body i hi a w hk)
  intro e a' w' q
  cases e <;> first | exact q | skip
  obtain ⟨j, hj, hlt, hk'⟩ := q
  exact ⟨μ j, by omega, j, hj, rfl, hk'⟩
theorem u_loop {ι : Type} {c : Code} (I : ι → Prop) (Rf : ι → List (Nat × Value)) (Hf : ι → List Ent) (μ : ι → Nat) (i0 : ι) (h0 : I i0) (hR : ∀ t v, lk (Rf i0) t = some v → lk R t = some v) (hH : Out H (Hf i0))
    (body : ∀ i, I i → U w0 n d (Rf i) (Hf i) (c.wp P (Exit.then (fun a w => ∃ j, I j ∧ μ j < μ i ∧ Kn w0 n d (Rf j) (Hf j) a w) Q))) : U w0 n d R H ((Code.loop c).wp P Q) := fun a w k => by
  exact wp_loop_k I Rf Hf μ (m := μ i0) body ⟨i0, h0, rfl, k.sub hR hH⟩
/-- a call that returns a new slice, among other things -/
theorem u_newsl {α : Type} {enc : α → List Value} {k : Nat} {zs : List α} {V : Value → Value} {f : FuncId} {fx : Operand} {xs : Array Operand} {ts : Array TypeId} {vs : List Value} {cap : Array Value} (hop : o.op = .call ⟨.value fx, xs, ts⟩) (hw : want R ops o = some true) (hd : o.dst = some t) (ht : Nat.blt t n = true) (hf : evR R fx = some (.func (.func f) #[] cap)) (hx : evs R xs.toList = some vs) [ci : CallI P f]
    (hc : ∀ a w, Kn w0 n d R H a w → NewSl enc k zs V P f (vs ++ cap.toList) w) (h : ∀ A c, U w0 n d ((t, V (.slice A zs.length c)) :: R) (.sl enc k A zs :: H) (wpList P ops Q rest)) : U w0 n d R H (wpList P ops Q (o :: rest)) :=
  u_call hop hw hd ht hf hx (fun a w q => (hc a w q).ret) (fun z _ => h z.1 z.2)
/-- once more round -/
theorem u_again {ι : Type} {I : ι → Prop} {Rf : ι → List (Nat × Value)} {Hf : ι → List Ent} {μ : ι → Nat} {m : Nat} (j : ι) (hj : I j) (hm : μ j < m) (hR : ∀ t v, lk (Rf j) t = some v → lk R t = some v) (hH : Out H (Hf j)) :
    U w0 n d R H (fun a w => ∃ j, I j ∧ μ j < m ∧ Kn w0 n d (Rf j) (Hf j) a w) := fun a w k => ⟨j, hj, hm, k.sub hR hH⟩
theorem u_at {R1 : List (Nat × Value)} {H1 : List Ent} (hR : ∀ t v, lk R1 t = some v → lk R t = some v) (hH : Out H H1) : U w0 n d R H (fun a w => Kn w0 n d R1 H1 a w) := fun a w k => k.sub hR hH

def argsR : Nat → List Value → List (Nat × Value)
  | _, [] => []
  | i, v :: r => (i, v) :: argsR (i + 1) r
theorem argsR_get : ∀ (args : List Value) (i t : Nat) (v : Value), lk (argsR i args) t = some v → i ≤ t ∧ args[t - i]? = some v
  | [], i, t, v, h => by cases h
  | u :: r, i, t, v, h => by
    simp only [argsR] at h
    by_cases hi : i = t
    · subst hi; rw [lk_cons_eq] at h; cases h; exact ⟨Nat.le_refl _, by simp⟩
    · rw [lk_cons_ne hi] at h
      obtain ⟨h1, h2⟩ := argsR_get r (i + 1) t v h
      refine ⟨by omega, ?_⟩
      rw [show t - i = (t - (i + 1)) + 1 by omega, List.getElem?_cons_succ]
      exact h2
theorem ret_enter {α : Type} {f : FuncId} {fn : Func} {c : Code} {args : List Value} {w : World} {V : α → Value} {E : α → List Ent} {p : α → Prop} {n : Nat} (hf : P.funcs[f]? = some fn) (hb : fn.body = some c) (hnn : fn.ntmps = n) (hn : Nat.ble args.length n = true)
    (h : U w n [] (argsR 0 args) [] (c.wp P (bodyPost P fn (RetQ w V E p)))) : Ret P f args w V E p :=
  Ret.of <| calls_of_wp hf hb (h _ _ ⟨by have := Nat.le_of_ble_eq_true hn; simp; omega, rfl, fun t v ht => by
    have := argsR_get args 0 t v ht
    obtain ⟨_, h2⟩ := this
    simp only [Nat.sub_zero] at h2
    have hlt : t < args.length := by
      rcases Nat.lt_or_ge t args.length with h | h
      · exact h
      · rw [List.getElem?_eq_none h] at h2; cases h2
    rw [Array.getD_eq_getD_getElem?, Array.getElem?_append_left (by simpa using hlt)]
    simp [h2], Below.refl _ _, Own.nil _ _⟩)
/-- what a result's place holds -/
inductive Res1 (P : Program) (w0 : World) (R : List (Nat × Value)) (H : List Ent) : ResultVar → Value → Prop
  | tmp {t : Tmp} {v : Value} : lk R t = some v → Res1 P w0 R H (.tmp t) v
  | cell {t : Tmp} {T : TypeId} {td : TypeDesc} {s b off : Nat} {g : Bool} {vs : List Value} {v : Value} : lk R t = some (.pointer (some ⟨b, off, none⟩)) → TyI P T td s g → Src w0 H b off vs → rdv g vs s = some v → Res1 P w0 R H (.cell t T) v
theorem res1c {P : Program} {w0 : World} {R : List (Nat × Value)} {H : List Ent} {t : Tmp} {T : TypeId} {td : TypeDesc} {s b off : Nat} {g : Bool} {vs : List Value} {v : Value} (h : lk R t = some (.pointer (some ⟨b, off, none⟩))) [i1 : TyI P T td s g] [i2 : SrcI w0 H b off vs] (hv : rdv g vs s = some v) : Res1 P w0 R H (.cell t T) v := Res1.cell h i1 i2.src hv
inductive ResL (P : Program) (w0 : World) (R : List (Nat × Value)) (H : List Ent) : List ResultVar → List Value → Prop
  | nil : ResL P w0 R H [] []
  | cons {r : ResultVar} {rs : List ResultVar} {v : Value} {vs : List Value} : Res1 P w0 R H r v → ResL P w0 R H rs vs → ResL P w0 R H (r :: rs) (v :: vs)
def resV : List Value → Value
  | [v] => v
  | vs => .tuple vs.toArray
theorem run_load_src {T : TypeId} {td : TypeDesc} {s b off : Nat} {g : Bool} {vs : List Value} {w : World} (i1 : TyI P T td s g) (hc : ∀ j v, vs[j]? = some v → w.cell? ⟨b, off + j, none⟩ = some v) (hv : rdv g vs s = some v) : (loadVar T ⟨b, off, none⟩).run P w = .ok v w := by
  have e1 := i1.agg w
  have e2 := i1.siz w
  cases g
  · simp only [rdv] at hv
    have := hc 0 v hv
    simp only [Nat.add_zero] at this
    simp [loadVar, e1, this]
  · simp only [rdv] at hv
    cases hl : Nat.ble s vs.length with
    | false => rw [hl] at hv; simp at hv
    | true =>
      rw [hl] at hv
      simp only [cond_true, Option.some.injEq] at hv
      subst hv
      have hlen : (vs.take s).length = s := by have := Nat.le_of_ble_eq_true hl; simp; omega
      have := run_loadCells_list (P := P) w ⟨b, off, none⟩ (vs.take s) (fun j u hu => by
        rw [addr_add]
        refine hc j u ?_
        rw [List.getElem?_take] at hu
        split at hu
        · exact hu
        · cases hu)
      rw [hlen] at this
      simp [loadVar, e1, e2, this]
theorem res_run {a : Act} {w : World} (q : Kn w0 n d R H a w) {f : ResultVar → Sem Value} (hf1 : ∀ t, f (.tmp t) = pure (a.tmps.getD t undef)) (hf2 : ∀ c t, f (.cell c t) = (do loadVar t (← asAddr (a.tmps.getD c undef)))) : ∀ {rs : List ResultVar} {vs : List Value}, ResL P w0 R H rs vs → (rs.mapM f).run P w = .ok vs w
  | [], _, .nil => by simp
  | r :: rs, _, .cons (v := v) (vs := vs) h1 h2 => by
    have ih := res_run q hf1 hf2 h2
    cases h1 with
    | tmp h => simp only [List.mapM_cons, hf1, Sem.run_bind, Sem.run_pure, q.regs _ _ h, Result.andThen_ok, ih]
    | cell h i1 hs hv =>
      have e := run_load_src i1 (hs w q.below q.own) hv
      have e0 : ∀ A : Addr, (asAddr (.pointer (some A))).run P w = .ok A w := fun _ => rfl
      simp only [List.mapM_cons, hf2, Sem.run_bind, Sem.run_pure, q.regs _ _ h, Result.andThen_ok, e0, e, ih]
theorem u_done {α : Type} {fn : Func} {V : α → Value} {E : α → List Ent} {p : α → Prop} {vs : List Value} (hres : ResL P w0 R H fn.results.toList vs) (z : α) (hp : p z) (hV : V z = resV vs) (hO : ∀ w, Own w0.heap.size w H → Own w0.heap.size w (E z)) : U w0 n [] R H (bodyPost P fn (RetQ w0 V E p) .ret) := fun a w q => by
  refine ⟨q.defers, resV vs, ?_, z, hp, by rw [hV], q.below, hO w q.own⟩
  have e : ∀ f : ResultVar → Sem Value, (∀ t, f (.tmp t) = pure (a.tmps.getD t undef)) → (∀ c t, f (.cell c t) = (do loadVar t (← asAddr (a.tmps.getD c undef)))) → (fn.results.mapM f).run P w = .ok vs.toArray w := fun f h1 h2 => by
    have := res_run q h1 h2 hres
    rw [Array.mapM_eq_mapM_toList, ← bind_pure_comp, Sem.run_bind, this]
    rfl
  unfold results
  simp only [Sem.run_bind]
  rw [e _ (fun _ => rfl) (fun _ _ => rfl)]
  simp only [Result.andThen_ok, Sem.run_pure]
  match vs with
  | [] => rfl
  | [v] => rfl
  | v :: v' :: r => rfl
theorem u_end {α : Type} {fn : Func} {V : α → Value} {E : α → List Ent} {p : α → Prop} {w0 : World} (h : U w0 n d R H (bodyPost P fn (RetQ w0 V E p) .ret)) : U w0 n d R H (bodyPost P fn (RetQ w0 V E p) .normal) := h

/-! ### rows that grow -/
theorem slAt_row {α : Type} {enc : α → List Value} {k e : Nat} {w : World} {A : Option Addr} {m c : Nat} {xs : List α} (he : ∀ x, (enc x).length = k) (h : Row enc k e 0 w (.slice A m c) xs) : m = xs.length ∧ SlAt enc k w A xs := by
  obtain ⟨A', c', h1, h2⟩ := h.slAt he
  cases h1
  exact ⟨rfl, h2⟩
theorem slAt_blk {α : Type} {enc : α → List Value} {k b : Nat} {w : World} {xs : List α} (he : ∀ x, (enc x).length = k) (h : Blk w b (xs.flatMap enc).toArray) : SlAt enc k w (some ⟨b, 0, none⟩) xs := by
  intro i x hx
  refine ⟨b, 0, rfl, h.lt, fun j v hv => ?_⟩
  rw [h.cell]
  simpa using flat_at he xs i x hx j v hv
theorem Own.row_sl {α : Type} {enc : α → List Value} {k e base : Nat} [ei : EncI enc k] {w : World} {A : Option Addr} {m c : Nat} {xs : List α} (ht : Take H (.row enc k e (.slice A m c) xs) H') (h : Own base w H) : Own base w (.sl enc k A xs :: H') := by
  refine (h.take ht).recast (fun hp => (slAt_row ei.len hp).2) ?_
  rintro b ⟨o, hA⟩
  subst hA
  rfl
theorem Own.blk_sl {α : Type} {enc : α → List Value} {k base b : Nat} [ei : EncI enc k] {w : World} {xs : List α} (ht : Take H (.blk b (xs.flatMap enc)) H') (h : Own base w H) : Own base w (.sl enc k (some ⟨b, 0, none⟩) xs :: H') := by
  refine (h.take ht).recast (fun hp => slAt_blk ei.len hp) ?_
  rintro b ⟨o, hA⟩
  cases hA
  rfl
/-- an entry more: a row that is nil -/
theorem u_row_nil {α : Type} (enc : α → List Value) (k e : Nat) (h : U w0 n d R (.row enc k e (.slice none 0 0) ([] : List α) :: H) X) : U w0 n d R H X := fun a w q =>
by
  refine h a w (q.heap q.below ⟨fun f hf => ?_, fun f hf b hb => ?_, List.pairwise_cons.2 ⟨fun f hf b hb => ?_, q.own.apart⟩⟩)
  · rcases List.mem_cons.1 hf with rfl | hf
    · exact Row.nil
    · exact q.own.here f hf
  · rcases List.mem_cons.1 hf with rfl | hf
    · cases hb
    · exact q.own.foot f hf b hb
  · cases hb
/-- an entry said otherwise -/
theorem u_recast {e e' : Ent} (ht : Take H e H') (hp : ∀ w, e.p w → e'.p w) (hS : ∀ b, e'.S b → e.S b) (h : U w0 n d R (e' :: H') X) : U w0 n d R H X := fun a w q =>
  h a w (q.heap q.below ((q.own.take ht).recast (hp w) hS))
/-- what is known of an entry -/
theorem u_fact {e : Ent} {p : Prop} (ht : Take H e H') (hp : ∀ w, e.p w → p) (h : p → U w0 n d R H X) : U w0 n d R H X := fun a w q => h (hp w (q.own.here e ht.mem)) a w q
theorem u_row_form {α : Type} {enc : α → List Value} {k e : Nat} {xs : List α} (ht : Take H (.row enc k e v xs) H') (h : ∀ A c, v = .slice A xs.length c → U w0 n d R H X) : U w0 n d R H X := fun a w q => by
  obtain ⟨A, c, hv⟩ := (q.own.here (.row enc k e v xs) ht.mem : Row enc k e 0 w v xs).form
  exact h A c hv a w q
theorem u_sl_some {α : Type} {enc : α → List Value} {k : Nat} {A : Option Addr} {xs : List α} (ht : Take H (.sl enc k A xs) H') (hl : 0 < xs.length) (h : ∀ b off, A = some ⟨b, off, none⟩ → U w0 n d R H X) : U w0 n d R H X := fun a w q => by
  obtain ⟨b, off, hA, _⟩ := (q.own.here (.sl enc k A xs) ht.mem : SlAt enc k w A xs).at_ hl
  exact h b off hA a w q

theorem u_append {α : Type} {enc : α → List Value} {k e T bytes : Nat} [el : ElI P T e k bytes] [ei : EncI enc k] {xs : List α} (ys : List α) {A : Option Addr} {m c : Nat} (hop : o.op = .call { callee := .builtin .append, args := #[x, y], argTypes := #[T, T] }) (hw : want R ops o = some true) (hd : o.dst = some t) (ht : Nat.blt t n = true) (hx : evR R x = some v) (hr : Take H (.row enc k e v xs) H')
    (hy : evR R y = some (.slice A m c)) (hm : m = ys.length) (hs : ∀ w, Below w0.heap.size w0 w → Own w0.heap.size w H → SlAt enc k w A ys) (hl : xs.length + ys.length ≤ 1000000 ∧ bytes ≤ 1000000)
    (h : ∀ A' c', U w0 n d ((t, .slice A' (xs ++ ys).length c') :: R) (.row enc k e (.slice A' (xs ++ ys).length c') (xs ++ ys) :: H') (wpList P ops Q rest)) : U w0 n d R H (wpList P ops Q (o :: rest)) :=
  u_op hw fun a w q K hK => by
    subst hm
    obtain ⟨z, hE⟩ := el.el
    obtain ⟨i, i1, i2, i3, i4⟩ := hE.info
    have ho := q.own.take hr
    have hrow : Row enc k e 0 w v xs := ho.here (.row enc k e v xs) (by simp)
    have hsl := hs w q.below q.own
    have hlen : (ys.flatMap enc).length = ys.length * k := by
      simp [List.length_flatMap, ei.len, List.map_const', List.sum_replicate_nat]
    have hmul : (xs.length + ys.length) * bytes ≤ 140737488355328 := by
      have := Nat.mul_le_mul hl.1 hl.2; omega
    have key : ∃ v' w', (Builtin.append_ #[T, T] o.type #[v, .slice A ys.length c]).run P w = .ok v' w' ∧ Row enc k e 0 w' v' (xs ++ ys) ∧ w.grownBy w' v.ownBlock ∧ (v'.ownBlock = v.ownBlock ∨ v'.ownBlock = some w.heap.size) := by
      cases hA : A with
      | none =>
        have hys : ys = [] := by
          cases ys with
          | nil => rfl
          | cons y r =>
            obtain ⟨b, o, hb, _⟩ := hsl 0 y (by simp)
            rw [hA] at hb; cases hb
        subst hys hA
        refine ⟨v, w, ?_, by simpa using hrow, World.grownBy.refl w _, .inl rfl⟩
        rcases hrow.2 with ⟨rfl, _⟩ | ⟨g, cap, cur, rfl, _, _, hnc, _⟩
        · simp [Builtin.append_, run_underlying hE.under, sizeOf, typeInfo, i1, Builtin.lenOf, Builtin.firstCells]
        · simp [Builtin.append_, run_underlying hE.under, sizeOf, typeInfo, i1, Builtin.lenOf, Builtin.firstCells, hnc, storeCells]
      | some ad =>
        subst hA
        obtain ⟨v', w', r1, r2, r3, _, r5⟩ := run_append_own_at (P := P) w 0 T o.type e i z k bytes hE.under i1 i2 i3 i4 hE.zs hE.pos v xs.length (xs.flatMap enc) hrow ad ys.length c (ys.flatMap enc) hlen
          (fun j u hu => by
            obtain ⟨i, y, l, hi, hl, rfl⟩ := flat_inv ei.len ys j u hu
            obtain ⟨b, o, hb, hlt, hc⟩ := hsl i y hi
            cases hb
            have e1 : (⟨b, o, none⟩ : Addr).add (i * k + l) = ⟨b, o + i * k + l, none⟩ := by rw [addr_add]; congr 1; omega
            rw [e1]; exact hc l u hl)
          (fun u hu => by
            obtain ⟨y, _, hy'⟩ := List.mem_flatMap.1 hu
            exact ei.one y u hy') (by unfold maxLen; omega) hmul (Nat.zero_le _)
        exact ⟨v', w', r1, by unfold Row; simpa using r2, r3, r5⟩
    obtain ⟨v', w', k1, k2, k3, k4⟩ := key
    obtain ⟨A', c', rfl⟩ := k2.form
    unfold Oper.wp execOp
    simp only [hop, resolve, invoke, builtin, Sem.run_bind, Sem.run_pure, Result.andThen_ok, List.map_toArray, List.map_cons, List.map_nil, q.ev hx, q.ev hy, k1, Oper.upon_value, hd]
    have hfoot : ∀ b, v.ownBlock = some b → w0.heap.size ≤ b ∧ b < w.heap.size := fun b hb => ho.foot (.row enc k e v xs) (by simp) b hb
    refine hK _ _ (h A' c' _ _ (Kn.put (q.heap ?_ ?_) ht))
    · exact q.below.trans ⟨k3.os, k3.tape, k3.output, k3.size, fun b hb => k3.block b (by have := q.base; omega) (fun e => by have := (hfoot b e.symm).1; omega)⟩
    · refine ho.turn k3.size (fun b hb hn => k3.block b hb (fun e => hn e.symm)) q.base k2 (fun b hb => ?_)
      have hb' : (Value.slice A' (xs ++ ys).length c').ownBlock = some b := hb
      have hlt := k2.lt b hb'
      rcases k4 with h4 | h4
      · exact ⟨.inl (h4.symm.trans hb'), hlt.2⟩
      · rw [h4] at hb'; cases hb'; exact ⟨.inr (Nat.le_refl _), hlt.2⟩
end

/-- an array's places -/
class TyBA (P : Program) (T : TypeId) (s : outParam Nat) (z : outParam (List Value)) : Prop where
  bui : ∀ parts : List (Nat × Value), P.built T parts = Instr.fill (fun i => some (i * s, s)) z.toArray parts
theorem tyB_struct {P : Program} {T : TypeId} {fs : Array Field} {zv : Value} {z : List Value} {ps : List (Nat × Nat)} (h1 : (P.info? T).bind (·.zero) = some zv) (h2 : zv.cells = z.toArray) (h3 : P.underlying T = some (.struct fs))
    (h4 : fs.toList.mapM (fun f => (P.info? f.type).map fun i => (f.offset, i.size)) = some ps) : TyB P T ps z := ⟨fun parts => by
  unfold Program.built
  cases hi : P.info? T with
  | none => rw [hi] at h1; simp at h1
  | some it =>
    rw [hi] at h1
    simp only [Option.bind_some] at h1
    simp only [h3, h1, h4, h2]⟩
theorem tyB_array {P : Program} {T e : TypeId} {m s : Nat} {zv : Value} {z : List Value} (h1 : (P.info? T).bind (·.zero) = some zv) (h2 : zv.cells = z.toArray) (h3 : P.underlying T = some (.array m e))
    (h4 : (P.info? e).map (·.size) = some s) : TyBA P T s z := ⟨fun parts => by
  unfold Program.built
  cases hi : P.info? T with
  | none => rw [hi] at h1; simp at h1
  | some it =>
    rw [hi] at h1
    simp only [Option.bind_some] at h1
    cases he : P.info? e with
    | none => rw [he] at h4; simp at h4
    | some ie =>
      rw [he] at h4
      simp only [Option.map_some, Option.some.injEq] at h4
      simp only [h3, h1, he, h2, h4]⟩

theorem src_one {α : Type} {enc : α → List Value} {k b : Nat} {cs : List Value} {y : α} {w0 : World} {H H' : List Ent} [ei : EncI enc k] [i : TakeB H b cs H'] (hc : cs = enc y) : ∀ w, Below w0.heap.size w0 w → Own w0.heap.size w H → SlAt enc k w (some ⟨b, 0, none⟩) [y] := fun w _ ho => by
  subst hc
  have h : Blk w b (enc y).toArray := ho.here _ i.tk.mem
  exact slAt_blk ei.len (by simpa using h)
theorem cell_of {base b : Nat} {cs : List Value} {v : Value} {H H' : List Ent} {w W : World} (ho : Own base w H) [i : TakeB H b cs H'] (hW : Below w.heap.size w W) (hv : cs[0]? = some v) : W.cell? ⟨b, 0, none⟩ = some v := by
  have h : Blk w b cs.toArray := ho.here _ i.tk.mem
  rw [hW.cell h.lt, h.cell]
  simpa using hv
theorem cells_of {base b : Nat} {cs : List Value} {H H' : List Ent} {w W : World} (ho : Own base w H) [i : TakeB H b cs H'] (hW : Below w.heap.size w W) : InC W b 0 cs := ⟨fun j v hv => by
  have h : Blk w b cs.toArray := ho.here _ i.tk.mem
  rw [hW.cell h.lt, h.cell]
  simpa using hv⟩
theorem sl_of {α : Type} {enc : α → List Value} {k base : Nat} {A : Option Addr} {xs : List α} {H H' : List Ent} {w W : World} (ht : Take H (.sl enc k A xs) H') (ho : Own base w H) (hW : Below w.heap.size w W) : SlAt enc k W A xs := SlAt.below (ho.here (.sl enc k A xs) ht.mem) hW
/-- a slice that is read, found by its address -/
class TakeL (H : List Ent) (A : Option Addr) {α : outParam Type} (enc : outParam (α → List Value)) (k : outParam Nat) (xs : outParam (List α)) (H' : outParam (List Ent)) : Prop where tk : Take H (.sl enc k A xs) H'
instance (priority := high) takeL_here {H : List Ent} {A : Option Addr} {α : Type} {enc : α → List Value} {k : Nat} {xs : List α} : TakeL (.sl enc k A xs :: H) A enc k xs H := ⟨Take.here _ _⟩
instance takeL_there {H H' : List Ent} {e : Ent} {A : Option Addr} {α : Type} {enc : α → List Value} {k : Nat} {xs : List α} [i : TakeL H A enc k xs H'] : TakeL (e :: H) A enc k xs (e :: H') := ⟨Take.there _ i.tk⟩
theorem sl_at {α : Type} {enc : α → List Value} {k base : Nat} {A : Option Addr} {xs : List α} {H H' : List Ent} {w W : World} [i : TakeL H A enc k xs H'] (ho : Own base w H) (hW : Below w.heap.size w W) : SlAt enc k W A xs := sl_of i.tk ho hW
theorem src_many {α : Type} {enc : α → List Value} {k b : Nat} {cs : List Value} (ys : List α) {w0 : World} {H H' : List Ent} [ei : EncI enc k] [i : TakeB H b cs H'] (hc : cs = ys.flatMap enc) : ∀ w, Below w0.heap.size w0 w → Own w0.heap.size w H → SlAt enc k w (some ⟨b, 0, none⟩) ys := fun w _ ho => by
  subst hc
  exact slAt_blk ei.len (ho.here _ i.tk.mem)
theorem src_sl {α : Type} {enc : α → List Value} {k : Nat} {A : Option Addr} {xs : List α} {w0 : World} {H H' : List Ent} (ht : Take H (.sl enc k A xs) H') : ∀ w, Below w0.heap.size w0 w → Own w0.heap.size w H → SlAt enc k w A xs := fun w _ ho => ho.here (.sl enc k A xs) ht.mem
theorem src_in {α : Type} {enc : α → List Value} {k : Nat} {A : Option Addr} {xs : List α} {w0 : World} {H : List Ent} (h : SlAt enc k w0 A xs) : ∀ w, Below w0.heap.size w0 w → Own w0.heap.size w H → SlAt enc k w A xs := fun w hb _ => h.below hb

/-- a block with no cells is the start of a row -/
theorem row_of_empty {α : Type} {enc : α → List Value} {k e b : Nat} {w : World} (h : w.heap[b]? = some (.cells #[] e (0, 0))) : Row enc k e 0 w (.slice (some ⟨b, 0, none⟩) 0 0) ([] : List α) :=
  ⟨by simp, .inr ⟨b, 0, #[], rfl, Nat.zero_le _, h, Nat.le_refl _, Nat.zero_le _, by simp, by simp⟩⟩
theorem u_buildNil {α : Type} (enc : α → List Value) {k T e s s' : Nat} {g g' : Bool} {td : TypeDesc} {P : Program} {w0 : World} {n : Nat} {d : List Deferred} {R : List (Nat × Value)} {H : List Ent} {Q : Exit → Act → World → Prop} {ops : Array Oper} {rest : List Oper} {o : Oper} {t : Tmp} (hop : o.op = .buildSlice T 0 #[]) [i1 : TyI P T (.slice e) s g] [i2 : TyI P e td s' g'] [ei : EncI enc k] (hw : want R ops o = some true) (hd : o.dst = some t) (ht : Nat.blt t n = true)
    (h : ∀ b, U w0 n d ((t, .slice (some ⟨b, 0, none⟩) 0 0) :: R) (.row enc k e (.slice (some ⟨b, 0, none⟩) 0 0) ([] : List α) :: H) (wpList P ops Q rest)) : U w0 n d R H (wpList P ops Q (o :: rest)) :=
  u_op hw fun a w q K hK => by
    have e3 := run_underlying i1.und w
    have e4 := i2.siz w
    have e8 : ∀ f : Nat → Value, (Array.range 0).map f = #[] := fun f => by simp
    have hrun : (Instr.buildSlice T 0 #[]).run P w = .ok (.slice (some ⟨w.heap.size, 0, none⟩) 0 0) (w.alloc (.cells #[] e)) := by
      unfold Instr.buildSlice
      simp only [Sem.run_bind, e3, Result.andThen_ok, e4, Sem.run_ite, show ¬ 0 * s' > 2 ^ 24 by omega, if_false, Sem.run_pure, Nat.zero_mul, if_true, e8, Instr.fill, newRow, run_newObj]
      rfl
    unfold Oper.wp execOp; rw [hop]
    have e9 : ∀ f : Nat × Operand → Nat × Value, (#[] : Array (Nat × Operand)).map f = #[] := fun f => by simp
    simp only [e9, Sem.run_bind, hrun, Result.andThen_ok, Sem.run_pure, Oper.upon_value, hd]
    refine hK _ _ (h w.heap.size _ _ (Kn.put (q.call (E := [.row enc k e (.slice (some ⟨w.heap.size, 0, none⟩) 0 0) ([] : List α)]) (below_alloc w (.cells #[] e)) ⟨?_, ?_, by simp⟩) ht))
    · intro f hf
      simp only [List.mem_singleton] at hf
      subst hf
      exact row_of_empty (heap_alloc_new w _)
    · intro f hf b hb
      simp only [List.mem_singleton] at hf
      subst hf
      cases hb
      simp

/-! ### parts of slices -/
def bnd (R : List (Nat × Value)) (x : Option Operand) (z : Nat) : Option Int :=
  match x with
  | none => some (z : Int)
  | some x => match evR R x with | some (.int _ i) => some i | _ => none
theorem SlAt.part {α : Type} {enc : α → List Value} {k : Nat} {w : World} {A : Option Addr} {xs : List α} (h : SlAt enc k w A xs) (L M : Nat) : SlAt enc k w (A.map (·.add (L * k))) ((xs.take M).drop L) := by
  intro i x hx
  rw [List.getElem?_drop, List.getElem?_take] at hx
  split at hx
  · obtain ⟨b, o, hA, hlt, hc⟩ := h (L + i) x hx
    subst hA
    refine ⟨b, o + L * k, by simp [addr_add], hlt, fun j v hv => ?_⟩
    have := hc j v hv
    rw [Nat.add_mul] at this
    rwa [show o + L * k + i * k + j = o + (L * k + i * k) + j by omega]
  · cases hx
section
variable {P : Program} {w0 : World} {n : Nat} {d : List Deferred} {R : List (Nat × Value)} {H : List Ent} {Q : Exit → Act → World → Prop} {ops : Array Oper} {rest : List Oper} {o : Oper} {t : Tmp} {x : Operand}
theorem u_slice {T e : TypeId} {td : TypeDesc} {s s' m c : Nat} {g g' : Bool} {A : Option Addr} {lo hi : Option Operand} {l u : Int} (L M : Nat) (hop : o.op = .slice T x lo hi none) [i1 : TyI P T (.slice e) s g] [i2 : TyI P e td s' g'] (hw : want R ops o = some true) (hd : o.dst = some t) (ht : Nat.blt t n = true) (hx : evR R x = some (.slice A m c))
    (hl : bnd R lo 0 = some l) (hu : bnd R hi m = some u) (hL : l = (L : Int)) (hM : u = (M : Int)) (h1 : L ≤ M) (h2 : M ≤ c)
    (h : ∀ A', (∀ (α : Type) (enc : α → List Value) (xs : List α) (w : World), SlAt enc s' w A xs → SlAt enc s' w A' ((xs.take M).drop L)) → (∀ b o, A' = some ⟨b, o, none⟩ → ∃ a, A = some a ∧ a.block = b) → U w0 n d ((t, .slice A' (M - L) (c - L)) :: R) H (wpList P ops Q rest)) : U w0 n d R H (wpList P ops Q (o :: rest)) := by
  subst hL hM
  refine u_val (v := .slice (if c = L then A else A.map (·.add (L * s'))) (M - L) (c - L)) hw hd ht (fun a w q => ?_) (h _ ?_ ?_)
  · unfold execOp; rw [hop]
    have e1 := run_underlying i1.und w
    have e2 := i2.siz w
    have b1 : ∀ (r : Nat) (code : BoundsCode) (z : Nat), z ≤ r → ∀ k, (Instr.sliceBound (.int k (z : Int)) r code).run P w = .ok z w := fun r code z hz k => by
      simp [Instr.sliceBound, asIntOf, hz]
    have hlo : (∃ k, lo.map a.eval = some (.int k (L : Int))) ∨ (lo = none ∧ L = 0) := by
      cases lo with
      | none => simp only [bnd, Option.some.injEq] at hl; exact .inr ⟨rfl, by omega⟩
      | some y =>
        simp only [bnd] at hl
        cases hy : evR R y with
        | none => rw [hy] at hl; simp at hl
        | some v =>
          rw [hy] at hl
          cases v <;> simp at hl
          rename_i k i
          subst hl
          exact .inl ⟨k, by simp [q.ev hy]⟩
    have hhi : (∃ k, hi.map a.eval = some (.int k (M : Int))) ∨ (hi = none ∧ M = m) := by
      cases hi with
      | none => simp only [bnd, Option.some.injEq] at hu; exact .inr ⟨rfl, by omega⟩
      | some y =>
        simp only [bnd] at hu
        cases hy : evR R y with
        | none => rw [hy] at hu; simp at hu
        | some v =>
          rw [hy] at hu
          cases v <;> simp at hu
          rename_i k i
          subst hu
          exact .inl ⟨k, by simp [q.ev hy]⟩
    rcases hlo with ⟨k1, hlo⟩ | ⟨hlo, rfl⟩ <;> rcases hhi with ⟨k2, hhi⟩ | ⟨hhi, rfl⟩ <;>
      simp [Instr.sliceAt, Instr.slice, e1, e2, q.ev hx, Instr.sliceBounds, hlo, hhi, b1, h1, h2]
  · intro α enc xs w hs
    by_cases hc : c = L
    · rw [if_pos hc]
      have hlm : L = M := by omega
      subst hlm
      rw [List.drop_eq_nil_of_le (by simp; omega)]
      exact SlAt.nil
    · rw [if_neg hc]
      exact hs.part L M
  · intro b o hA
    by_cases hc : c = L
    · rw [if_pos hc] at hA; exact ⟨_, hA, rfl⟩
    · rw [if_neg hc] at hA
      cases A with
      | none => simp at hA
      | some a =>
        refine ⟨a, rfl, ?_⟩
        simp only [Option.map_some, Option.some.injEq] at hA
        unfold Addr.add at hA
        split at hA
        · rw [hA]
        · simpa using congrArg Addr.block hA
end
end Go.Proofs.Ytekjkaoibcfgfaa
