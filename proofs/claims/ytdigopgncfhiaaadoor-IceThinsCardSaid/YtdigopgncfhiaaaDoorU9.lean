/- A scope without a goto. -/
import Derived.Test.YtdigopgncfhiaaaDoorU6
import Derived.Scope
namespace Go.Proofs.YtdigopgncfhiaaaDoor
variable {ro : Option Nat}
open Go.RowKit
set_option linter.unusedSimpArgs false
theorem stepR_scope {P : Program} {b : Frame} {a : Act} {k : List Item} {cs : List Frame} {w : World} {c : Code} : step P (lone (b.atR a (.code (.scope c) :: k)) cs w) = .next (lone (b.atR a (.code c :: .inScope c :: k)) cs w) :=
  step_lone_go (by simp [stepG, stepG.exec, Frame.atR])
theorem stepR_inScope {P : Program} {b : Frame} {a : Act} {k : List Item} {cs : List Frame} {w : World} {c : Code} : step P (lone (b.atR a (.inScope c :: k)) cs w) = .next (lone (b.atR a k) cs w) :=
  step_lone_go (by simp [stepG, stepG.exec, Frame.atR])
theorem wpIn_scope {F : Fence} {n : Nat} {P : Program} {Q : Exit → Act → World → Prop} {a : Act} {w : World} {c : Code} (h : c.wpIn F n P (Exit.noGoto Q) a w) : (Code.scope c).wpIn F n P Q a w := by
  intro b k cs hro hb hr
  have h0 : (lone (b.atR a (.code (.scope c) :: k)) cs w).fenced P F := fenced_calm hb hr rfl
  obtain ⟨e, a₁, w₁, hq, harr⟩ := h b (.inScope c :: k) cs hro hb hr
  cases e with
  | normal => exact ⟨.normal, a₁, w₁, hq, .head h0 stepR_scope (StepsIn.trans harr (.one (fenced_calm hb hr rfl) stepR_inScope))⟩
  | exit id =>
    have hx : exitTo id (.inScope c :: k) = exitTo id k := by simp [exitTo]
    exact ⟨.exit id, a₁, w₁, hq, fun k' hk => .head h0 stepR_scope (harr.1 k' (by rw [hx]; exact hk)),
      fun hr' hk => let ⟨k₁, h1, h2⟩ := harr.2 hr' (by rw [hx]; exact hk); ⟨k₁, h1, .head h0 stepR_scope h2⟩⟩
  | goto l => exact hq.elim
  | ret => exact ⟨_, a₁, w₁, hq, .of_steps (.one h0 stepR_scope) harr⟩
  | panic ch => exact ⟨_, a₁, w₁, hq, .of_steps (.one h0 stepR_scope) harr⟩
  | outgrown => exact ⟨_, a₁, w₁, hq, .of_steps (.one h0 stepR_scope) harr⟩
section
variable {P : Program} {w0 : World} {n : Nat} {d : List Deferred} {R : List (Nat × Value)} {H : List Ent} {Q : Exit → Act → World → Prop}
theorem u_scope {c : Code} (h : U w0 n d R H (c.wpI ro P (Exit.noGoto Q))) : U w0 n d R H ((Code.scope c).wpI ro P Q) := fun a w k => wpIn_scope (h a w k)
theorem u_scope_n (h : U w0 n d R H (Q .normal)) : U w0 n d R H (Exit.noGoto Q .normal) := h
theorem u_scope_r (h : U w0 n d R H (Q .ret)) : U w0 n d R H (Exit.noGoto Q .ret) := h
theorem u_scope_e {id : Nat} (h : U w0 n d R H (Q (.exit id))) : U w0 n d R H (Exit.noGoto Q (.exit id)) := h
end
section
variable {P : Program} {w0 : World} {n : Nat} {d : List Deferred} {R : List (Nat × Value)} {H H' : List Ent} {Q : Exit → Act → World → Prop} {ops : Array Oper} {rest : List Oper} {o : Oper} {t : Tmp} {x y : Operand}
theorem x_buildA {T1 : TypeId} {ps : Array (Nat × Operand)} {s : Nat} {z : List Value} {qs : List (Nat × Value)} (hop : o.op = .build T1 ps) [i1 : TyBA P T1 s z] (hw : want R ops o = some true) (hd : o.dst = some t) (ht : Nat.blt t n = true) (hp : evp R ps.toList = some qs)
    (h : ∃ cs, fillL (fun i => some (i * s, s)) z qs = some cs ∧ U w0 n d ((t, .agg cs.toArray) :: R) H (wpL ro P ops Q rest)) : U w0 n d R H (wpL ro P ops Q (o :: rest)) := by
  obtain ⟨cs, hf, h⟩ := h
  exact u_val hw hd ht (fun a w q => by
    unfold execOp; rw [hop]
    have e1 : (ps.map fun (i, x) => (i, a.eval x)).toList = qs := by rw [Array.toList_map]; exact q.evp hp
    have e2 : P.built T1 (ps.map fun (i, x) => (i, a.eval x)).toList = some cs.toArray := by
      rw [i1.bui, e1]
      exact fill_eq _ qs z cs hf
    simp only [Sem.run_bind, run_build w T1 _ _ e2, Result.andThen_ok, Sem.run_pure]) h
end
theorem run_eql_some_nil {P : Program} (w : World) {t e : TypeId} (a : Addr) (n c : Nat) (ht : P.underlying t = some (.slice e)) : (binOp .eql t (.slice (some a) n c) (.slice none 0 0)).run P w = .ok (.bool false) w := by
  have := Lib.run_eql_slice_nil (P := P) w t e (some a) n c 0 0 ht
  simpa using this
section
variable {P : Program} {w0 : World} {n : Nat} {d : List Deferred} {R : List (Nat × Value)} {H H' : List Ent} {Q : Exit → Act → World → Prop} {ops : Array Oper} {rest : List Oper} {o : Oper} {t : Tmp} {x y : Operand}
theorem u_eqlNil {T1 T2 e : TypeId} {s m c : Nat} {g : Bool} {A : Addr} (hop : o.op = .binOp .eql T1 x y T2) [i1 : TyI P T1 (.slice e) s g] (hw : want R ops o = some true) (hd : o.dst = some t) (ht : Nat.blt t n = true) (hx : evR R x = some (.slice (some A) m c)) (hy : evR R y = some (.slice none 0 0))
    (h : U w0 n d ((t, .bool false) :: R) H (wpL ro P ops Q rest)) : U w0 n d R H (wpL ro P ops Q (o :: rest)) :=
  u_eql (b := false) hop hw hd ht hx hy (fun w => by simp [eqGuard]) (fun w => run_eql_some_nil w A m c i1.und) (fun h => by cases h) (fun _ => h)
end

end Go.Proofs.YtdigopgncfhiaaaDoor
