/- Twin, and the reference's marks. -/
import Derived.Test.YtdigopgncfhiaaaDoorV1
import Derived.Test.YtdigopgncfhiaaaDoorCheckR
import Derived.Test.YtdigopgncfhiaaaDoorOpen
namespace Go.Proofs.YtdigopgncfhiaaaDoor
variable {ro : Option Nat}
set_option linter.unusedVariables false
open Go.RowKit
set_option maxRecDepth 20000
set_option linter.unusedSimpArgs false

theorem elem_st : Elem Tryd.prog 22 114 9 72 (.agg #[.int .i64 0, .int .i64 0, .int .i64 0, .int .i64 0, .int .i64 0, .int .i64 0, .int .i64 0, .int .u8 0, .int .i64 0]) :=
  ⟨by simp [go_sem], info_parts (by kernel_rfl), by rfl, by decide⟩
instance : ElI Tryd.prog 22 114 9 72 := ⟨⟨_, elem_st⟩⟩

set_option maxHeartbeats 1000000 in
theorem twin_any (t : List St) (A : Option Addr) (cap : Nat) (w : World) (ht : SlAt encSt 9 w A t) (hl : t.length ≤ 1000) :
    NewSl encSt 9 t (fun v => .agg #[v]) Tryd.prog 36 [vT A t.length cap] w := by
  unfold NewSl vT
  (refine ret_enter (n := 8) Tryd.func36 rfl rfl rfl ?_)
  (repeat' (first | ((with_reducible refine isOps ?_); first | (refine x_load rfl rfl rfl rfl rfl ?_; refine ⟨_, rfl, ?_⟩) | refine u_field rfl rfl rfl rfl rfl ?_ | (refine u_buildNil encSt rfl rfl rfl rfl (fun b => ?_)) | (refine u_append (enc := encSt) t rfl rfl rfl rfl rfl (by (repeat (first | exact Take.here _ _ | apply Take.there))) rfl rfl (src_in ht) (by refine ⟨?_, by decide⟩; (try simp only [List.length_append, List.length_cons, List.length_nil]); omega) (fun A' c' => ?_)) | (refine x_store rfl rfl rfl rfl rfl ?_; refine And.intro rfl (And.intro (by first | decide | exact Nat.le_of_ble_eq_true rfl | (simp; omega)) ⟨_, rfl, ?_⟩)) | (refine u_alloc rfl rfl rfl rfl (fun b => ?_)) | (refine u_box rfl rfl rfl rfl rfl rfl (fun b => ?_)) | (refine x_build rfl rfl rfl rfl rfl ?_; refine ⟨_, rfl, ?_⟩) | (refine x_buildSlice rfl rfl rfl rfl rfl ?_; refine ⟨rfl, _, rfl, fun b => ?_⟩)) | (with_reducible first | refine u_seq ?_ | refine u_region ?_ | refine u_nil ?_ | refine u_then_n ?_ | refine u_ret ?_ | refine u_skip ?_ | refine u_then_r ?_ | refine u_end ?_)))
  refine u_done (by (exact ResL.cons (by exact res1c rfl (by exact rfl)) ResL.nil)) (A', c') trivial rfl (fun _ h => (h.row_sl (by (repeat (first | exact Take.here _ _ | apply Take.there)))).sub (by (repeat (first | exact Out.nil _ | (refine Out.cons (by (repeat (first | exact Take.here _ _ | apply Take.there))) ?_)))))

theorem check_n (t : List St) (A : Option Addr) (cap : Nat) (w : World) (ht : SlAt encSt 9 w A t) (hf : FitT t) (hl : t.length ≤ 1000000) : Gv Tryd.prog 77 [.agg #[.slice A t.length cap]] w (.int .i64 (errT t)) := (check_any t A cap w ht hf hl).gv
theorem rcheck_n (t : List St) (A : Option Addr) (cap : Nat) (w : World) (ht : SlAt encSt 9 w A t) (hf : FitT t) (hl : t.length ≤ 1000000) : Gv Tryd.prog 82 [.agg #[.slice A t.length cap]] w (.int .i64 (errT t)) := (rcheck_any t A cap w ht hf hl).gv
theorem track_n (t : List St) (A : Option Addr) (cap : Nat) (w : World) (ht : SlAt encSt 9 w A t) (hf : FitT t) (hl : t.length ≤ 1000000) : Gv Tryd.prog 102 [.agg #[.slice A t.length cap]] w (.bool (valid t)) := (track_any t A cap w ht hf hl).gv
theorem open_n (t : List St) (A : Option Addr) (cap : Nat) (w : World) (ht : SlAt encSt 9 w A t) (hf : FitT t) (hl : t.length ≤ 1000000) : Gv Tryd.prog 118 [.agg #[.slice A t.length cap]] w (.tuple #[.agg #[.slice A t.length cap], .int .i64 (errT t)]) := (open_any t A cap w ht hf hl).gv
end Go.Proofs.YtdigopgncfhiaaaDoor
/- Small facts: the error of a track; a slice of nothing. -/
namespace Go.Proofs.YtdigopgncfhiaaaDoor
variable {ro : Option Nat}
set_option linter.unusedVariables false
open Go.RowKit
set_option maxRecDepth 20000
set_option linter.unusedSimpArgs false

theorem errT_yes {t : List St} (h : valid t = true) : errT t = 0 := by simp [errT, h]
theorem errT_no {t : List St} (h : valid t = false) : errT t = 10 := by simp [errT, h]

theorem sl_nil {α : Type} {enc : α → List Value} {k : Nat} {base : Nat} {w : World} {H : List Ent} (_ : Own base w H) : Own base w [.sl enc k none ([] : List α)] := by
  refine ⟨fun e he => ?_, fun e he b hb => ?_, by simp⟩
  · simp only [List.mem_singleton] at he
    subst he
    exact SlAt.nil
  · simp only [List.mem_singleton] at he
    subst he
    obtain ⟨o, ho⟩ := hb
    cases ho


section
variable {w0 : World} {n : Nat} {d : List Deferred} {R : List (Nat × Value)} {H : List Ent} {Q : Exit → Act → World → Prop} {ops : Array Oper} {rest : List Oper} {o : Oper} {t : Tmp} {x y : Operand}
theorem u_eqsp {a b c e : Int} {T' : TypeId} (hop : o.op = .binOp .eql 28 x y T') (hw : want R ops o = some true) (hd : o.dst = some t) (ht : Nat.blt t n = true) (hx : evR R x = some (.agg #[.int .i64 a, .int .i64 b])) (hy : evR R y = some (.agg #[.int .i64 c, .int .i64 e]))
    (h1 : a = c ∧ b = e → U w0 n d ((t, .bool true) :: R) H (wpL ro Tryd.prog ops Q rest)) (h2 : ¬ (a = c ∧ b = e) → U w0 n d ((t, .bool false) :: R) H (wpL ro Tryd.prog ops Q rest)) : U w0 n d R H (wpL ro Tryd.prog ops Q (o :: rest)) :=
  u_eql hop hw hd ht hx hy (fun w => gd_sp _ _ _ _ _ w) (fun w => run_eql_sp a b c e w) (fun h => h1 (by simpa using eqSp_iff.1 h)) (fun h => h2 (by simpa using eqSp_no.1 h))
theorem u_nesp {a b c e : Int} {T' : TypeId} (hop : o.op = .binOp .neq 28 x y T') (hw : want R ops o = some true) (hd : o.dst = some t) (ht : Nat.blt t n = true) (hx : evR R x = some (.agg #[.int .i64 a, .int .i64 b])) (hy : evR R y = some (.agg #[.int .i64 c, .int .i64 e]))
    (h1 : a = c ∧ b = e → U w0 n d ((t, .bool false) :: R) H (wpL ro Tryd.prog ops Q rest)) (h2 : ¬ (a = c ∧ b = e) → U w0 n d ((t, .bool true) :: R) H (wpL ro Tryd.prog ops Q rest)) : U w0 n d R H (wpL ro Tryd.prog ops Q (o :: rest)) :=
  u_eql hop hw hd ht hx hy (fun w => gd_sp _ _ _ _ _ w) (fun w => run_neq_sp a b c e w) (fun h => h2 (by simpa using eqSp_no.1 (by simpa using h))) (fun h => h1 (by simpa using eqSp_iff.1 (by simpa using h)))
end
section
variable {S : Pend} {w0 : World} {n : Nat} {d : List Deferred} {R0 : List (Nat × Value)} {H0 : List Ent} {Q : Exit → Act → World → Prop} {ops : Array Oper} {bs : List (List Bool)} {b : List Bool} {k : Nat} {o : Oper} {rest : List Oper} {T : List Rw} {t : Tmp} {Hk : Wits → List Ent} {x y : Operand}
theorem c_eqsp {a b' c e : Int} {T' : TypeId} (hop : o.op = .binOp .eql 28 x y T') (hw : ∀ G, want (Rk R0 ops b o T G) ops o = some true) (hd : o.dst = some t) (hx : ∀ G, evR (Rk R0 ops b o T G) x = some (.agg #[.int .i64 a, .int .i64 b'])) (hy : ∀ G, evR (Rk R0 ops b o T G) y = some (.agg #[.int .i64 c, .int .i64 e]))
    (h1 : a = c ∧ b' = e → Chain ro S Tryd.prog w0 n d ops R0 H0 Q bs (k + 1) rest (⟨k, some t, fun _ => (.bool true, [])⟩ :: T)) (h2 : ¬ (a = c ∧ b' = e) → Chain ro S Tryd.prog w0 n d ops R0 H0 Q bs (k + 1) rest (⟨k, some t, fun _ => (.bool false, [])⟩ :: T)) : CAt ro S Tryd.prog w0 n d ops R0 H0 Q b bs k o rest T Hk :=
  c_eql hop hw hd hx hy (fun w => gd_sp _ _ _ _ _ w) (fun w => run_eql_sp a b' c e w) (fun h => h1 (by simpa using eqSp_iff.1 h)) (fun h => h2 (by simpa using eqSp_no.1 h))
theorem c_nesp {a b' c e : Int} {T' : TypeId} (hop : o.op = .binOp .neq 28 x y T') (hw : ∀ G, want (Rk R0 ops b o T G) ops o = some true) (hd : o.dst = some t) (hx : ∀ G, evR (Rk R0 ops b o T G) x = some (.agg #[.int .i64 a, .int .i64 b'])) (hy : ∀ G, evR (Rk R0 ops b o T G) y = some (.agg #[.int .i64 c, .int .i64 e]))
    (h1 : a = c ∧ b' = e → Chain ro S Tryd.prog w0 n d ops R0 H0 Q bs (k + 1) rest (⟨k, some t, fun _ => (.bool false, [])⟩ :: T)) (h2 : ¬ (a = c ∧ b' = e) → Chain ro S Tryd.prog w0 n d ops R0 H0 Q bs (k + 1) rest (⟨k, some t, fun _ => (.bool true, [])⟩ :: T)) : CAt ro S Tryd.prog w0 n d ops R0 H0 Q b bs k o rest T Hk :=
  c_eql hop hw hd hx hy (fun w => gd_sp _ _ _ _ _ w) (fun w => run_neq_sp a b' c e w) (fun h => h2 (by simpa using eqSp_no.1 (by simpa using h))) (fun h => h1 (by simpa using eqSp_iff.1 (by simpa using h)))
end

end Go.Proofs.YtdigopgncfhiaaaDoor
/- Choices: ready, choose, some. -/
namespace Go.Proofs.YtdigopgncfhiaaaDoor
variable {ro : Option Nat}
open Go.RowKit
set_option maxRecDepth 20000
set_option linter.unusedSimpArgs false
set_option linter.unusedVariables false

def readyB (t : List St) : Bool := !decide (20 < t.length) && valid t
end Go.Proofs.YtdigopgncfhiaaaDoor
