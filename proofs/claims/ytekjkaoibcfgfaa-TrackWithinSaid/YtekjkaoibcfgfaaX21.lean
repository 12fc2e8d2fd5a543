/- slices.Equal; maps from which an entry is taken and put back. -/
import Derived.Test.YtekjkaoibcfgfaaX18
import Derived.Test.YtekjkaoibcfgfaaSameT
namespace Go.Proofs.Ytekjkaoibcfgfaa
open Go.RowKit
open Go.ChangeMaps (setBlock)
set_option maxRecDepth 20000
set_option linter.unusedSimpArgs false
set_option linter.unusedVariables false

theorem run_neq_vst (s t : St) (w : World) : (binOp .neq 82 (vSt s) (vSt t)).run Try.prog w = .ok (.bool (!eqSt s t)) w := by
  have := run_eqIn_st 9997 s t w
  unfold vSt at this ⊢
  rw [run_neq_struct, this]; rfl
theorem run_neq_vme (s t : Me) (w : World) : (binOp .neq 73 (vMe s) (vMe t)).run Try.prog w = .ok (.bool (!eqMe s t)) w := by
  have := run_eqIn_me 9997 s t w
  unfold vMe at this ⊢
  rw [run_neq_struct, this]; rfl
section
variable {S : Pend} {w0 : World} {n : Nat} {d : List Deferred} {R0 : List (Nat × Value)} {H0 : List Ent} {Q : Exit → Act → World → Prop} {ops : Array Oper} {bs : List (List Bool)} {b : List Bool} {k : Nat} {o : Oper} {rest : List Oper} {T : List Rw} {t : Tmp} {Hk : Wits → List Ent} {x y : Operand}
theorem c_nest (s u : St) {T' : TypeId} (hop : o.op = .binOp .neq 82 x y T') (hw : ∀ G, want (Rk R0 ops b o T G) ops o = some true) (hd : o.dst = some t) (hx : ∀ G, evR (Rk R0 ops b o T G) x = some (vSt s)) (hy : ∀ G, evR (Rk R0 ops b o T G) y = some (vSt u))
    (h1 : s = u → Chain S Try.prog w0 n d ops R0 H0 Q bs (k + 1) rest (⟨k, some t, fun _ => (.bool false, [])⟩ :: T)) (h2 : ¬ s = u → Chain S Try.prog w0 n d ops R0 H0 Q bs (k + 1) rest (⟨k, some t, fun _ => (.bool true, [])⟩ :: T)) : CAt S Try.prog w0 n d ops R0 H0 Q b bs k o rest T Hk :=
  c_eql hop hw hd hx hy (fun w => gd_st _ _ _ _ _ w) (fun w => run_neq_vst s u w) (fun h => h2 (by simpa [eqSt] using h)) (fun h => h1 (by simpa [eqSt] using h))
theorem c_neme (s u : Me) {T' : TypeId} (hop : o.op = .binOp .neq 73 x y T') (hw : ∀ G, want (Rk R0 ops b o T G) ops o = some true) (hd : o.dst = some t) (hx : ∀ G, evR (Rk R0 ops b o T G) x = some (vMe s)) (hy : ∀ G, evR (Rk R0 ops b o T G) y = some (vMe u))
    (h1 : s = u → Chain S Try.prog w0 n d ops R0 H0 Q bs (k + 1) rest (⟨k, some t, fun _ => (.bool false, [])⟩ :: T)) (h2 : ¬ s = u → Chain S Try.prog w0 n d ops R0 H0 Q bs (k + 1) rest (⟨k, some t, fun _ => (.bool true, [])⟩ :: T)) : CAt S Try.prog w0 n d ops R0 H0 Q b bs k o rest T Hk :=
  c_eql hop hw hd hx hy (fun w => gd_me _ _ _ _ _ w) (fun w => run_neq_vme s u w) (fun h => h2 (by simpa [eqMe] using h)) (fun h => h1 (by simpa [eqMe] using h))
end

set_option maxHeartbeats 1000000 in
theorem equal_any (a b : List St) (A B : Option Addr) (c d : Nat) (w : World) (ha : SlAt encSt 9 w A a) (hb : SlAt encSt 9 w B b) (hla : a.length ≤ 1000000) (hlb : b.length ≤ 1000000) :
    Gv Try.prog 79 [.slice A a.length c, .slice B b.length d] w (.bool (decide (a = b))) := by
  unfold Gv
  by_cases hl : a.length = b.length
  rotate_left
  · have e : decide (a = b) = false := decide_eq_false (fun h => hl (by rw [h]))
    rw [e]
    (refine ret_enter (n := 26) Try.func79 rfl rfl rfl ?_)
    (repeat' (first | ((with_reducible refine isOps ?_); first | refine u_move rfl rfl rfl rfl rfl ?_ | refine u_assign rfl rfl rfl rfl rfl ?_ | (refine u_cmp rfl rfl rfl rfl rfl rfl rfl (fun h => ?_) (fun h => ?_) <;> (dsimp only [cmpP] at h; (try (exfalso; omega)))) | refine u_len rfl rfl rfl rfl rfl ?_) | (with_reducible first | refine u_seq ?_ | refine u_region ?_ | refine u_nil ?_ | refine u_then_n ?_ | refine u_ret ?_ | refine u_then_r ?_) | ((with_reducible refine u_cond_t ?_ ?_); (· exact rfl))))
    exact u_done (by (exact ResL.cons (by exact Res1.tmp rfl) ResL.nil)) () trivial rfl (fun _ h => h.sub (by (repeat (first | exact Out.nil _ | (refine Out.cons (by (repeat (first | exact Take.here _ _ | apply Take.there))) ?_)))))
  (refine ret_enter (n := 26) Try.func79 rfl rfl rfl ?_)
  (repeat' (first | ((with_reducible refine isOps ?_); first | refine u_move rfl rfl rfl rfl rfl ?_ | refine u_assign rfl rfl rfl rfl rfl ?_ | (refine u_cmp rfl rfl rfl rfl rfl rfl rfl (fun h => ?_) (fun h => ?_) <;> (dsimp only [cmpP] at h; (try (exfalso; omega)))) | refine u_len rfl rfl rfl rfl rfl ?_) | (with_reducible first | refine u_seq ?_ | refine u_region ?_ | refine u_nil ?_ | refine u_then_n ?_ | refine u_skip ?_ | refine u_block ?_) | ((with_reducible refine u_cond_f ?_ ?_); (· exact rfl))))
  refine u_loop (ι := Nat) (fun i => i ≤ a.length ∧ a.take i = b.take i) (fun i => [(0, .slice A a.length c), (1, .slice B b.length d), (12, .int .i64 (a.length : Int)), (13, .int .i64 (i : Int))]) (fun _ => []) (fun i => a.length - i) 0 ⟨Nat.zero_le _, by simp⟩ (by (first | exact fun _ _ h => lk_nil h | (repeat (first | exact (fun _ _ h => lk_nil h) | (refine lk_sub rfl ?_))))) (by (repeat (first | exact Out.nil _ | (refine Out.cons (by (repeat (first | exact Take.here _ _ | apply Take.there))) ?_)))) ?_
  rintro i ⟨hi, hF⟩
  by_cases hlt : i < a.length
  · have hltb : i < b.length := by omega
    obtain ⟨b1, o1, rfl, _⟩ := ha.at_ hlt
    obtain ⟨b2, o2, rfl, _⟩ := hb.at_ hltb
    have : InS w b1 o1 encSt 9 a := ⟨ha⟩
    have : InS w b2 o2 encSt 9 b := ⟨hb⟩
    have : GetI a i a[i] := ⟨by simp⟩
    have : GetI b i b[i] := ⟨by simp⟩
    (repeat' (first | ((with_reducible refine isOps ?_); first | refine u_move rfl rfl rfl rfl rfl ?_ | refine u_assign rfl rfl rfl rfl rfl ?_ | (refine u_cmp rfl rfl rfl rfl rfl rfl rfl (fun h => ?_) (fun h => ?_) <;> (dsimp only [cmpP] at h; (try (exfalso; omega))))) | (with_reducible first | refine u_seq ?_ | refine u_region ?_ | refine u_nil ?_ | refine u_then_n ?_ | refine u_skip ?_ | refine u_block ?_) | ((with_reducible refine u_cond_t ?_ ?_); (· exact rfl))))
    (refine u_chain (by kernel_rfl) [[], [false], [true, true], [true, true, true], [false, false, false, false], [false, false, false, false, false], [true, true, false, false, false, false], [true, true, true, false, false, false, false], [true, true, true, true, true, true, true, true]] (by kernel_rfl) (by kernel_rfl) ?_)
    (repeat' (first | (((with_reducible refine c_go ?_ ?_); (· exact rfl); refine ⟨_, fun G => (by (try simp only [fltT, entsT, List.nil_append, List.cons_append]); rfl), ?_⟩); first | refine c_val _ (fun _ => e_move rfl rfl) (fun _ => rfl) rfl (by first | exact fun _ _ _ => rfl | (intro G G' h; simp (decide := true) only [h])) ?_ | refine c_val _ (fun _ => e_load' rfl rfl (by exact rfl)) (fun _ => rfl) rfl (by first | exact fun _ _ _ => rfl | (intro G G' h; simp (decide := true) only [h])) ?_ | (refine c_nest a[i] b[i] rfl (fun _ => rfl) rfl (fun _ => rfl) (fun _ => rfl) (fun h => ?_) (fun h => ?_)) | refine c_val _ (fun _ => e_index rfl rfl rfl rfl (by omega)) (fun _ => rfl) rfl (by first | exact fun _ _ _ => rfl | (intro G G' h; simp (decide := true) only [h])) ?_) | (with_reducible refine c_nil ?_)))
    all_goals
      (intro G; simp only [regsT, entsT, Pend.at_none, List.nil_append, List.cons_append])
      (repeat' (first | ((with_reducible refine isOps ?_); first | refine u_move rfl rfl rfl rfl rfl ?_ | refine u_assign rfl rfl rfl rfl rfl ?_ | refine u_add1 rfl rfl rfl rfl rfl rfl (by omega) ?_) | (with_reducible first | refine u_seq ?_ | refine u_region ?_ | refine u_nil ?_ | refine u_then_n ?_ | refine u_ret ?_ | refine u_skip ?_ | refine u_then_r ?_ | refine u_in_n ?_ | refine u_in_r ?_) | ((with_reducible refine u_cond_t ?_ ?_); (· exact rfl)) | ((with_reducible refine u_cond_f ?_ ?_); (· exact rfl))))
    · exact u_again (i + 1) ⟨by omega, take_eq_succ hF hlt hltb h⟩ (by omega) (by (first | exact fun _ _ h => lk_nil h | (repeat (first | exact (fun _ _ h => lk_nil h) | (refine lk_sub rfl ?_))))) (by (repeat (first | exact Out.nil _ | (refine Out.cons (by (repeat (first | exact Take.here _ _ | apply Take.there))) ?_))))
    · have e : decide (a = b) = false := decide_eq_false (by exact ne_of_getElem hlt hltb h)
      rw [e]
      exact u_done (by (exact ResL.cons (by exact Res1.tmp rfl) ResL.nil)) () trivial rfl (fun _ h => h.sub (by (repeat (first | exact Out.nil _ | (refine Out.cons (by (repeat (first | exact Take.here _ _ | apply Take.there))) ?_)))))
  · obtain rfl : i = a.length := by omega
    have e : decide (a = b) = true := decide_eq_true (by
      rw [List.take_length, hl, List.take_length] at hF; exact hF)
    rw [e]
    (repeat' (first | ((with_reducible refine isOps ?_); first | refine u_assign rfl rfl rfl rfl rfl ?_ | (refine u_cmp rfl rfl rfl rfl rfl rfl rfl (fun h => ?_) (fun h => ?_) <;> (dsimp only [cmpP] at h; (try (exfalso; omega))))) | (with_reducible first | refine u_seq ?_ | refine u_region ?_ | refine u_nil ?_ | refine u_then_n ?_ | refine u_ret ?_ | refine u_exit ?_ | refine u_in_same ?_ | refine u_then_e ?_) | ((with_reducible refine u_cond_f ?_ ?_); (· exact rfl))))
    exact u_done (by (exact ResL.cons (by exact Res1.tmp rfl) ResL.nil)) () trivial rfl (fun _ h => h.sub (by (repeat (first | exact Out.nil _ | (refine Out.cons (by (repeat (first | exact Take.here _ _ | apply Take.there))) ?_)))))

theorem ints_self (a : List Int) (A B : Option Addr) (c d : Nat) (w : World) (ha : SlAt encI 1 w A a) (hb : SlAt encI 1 w B a) (hl : a.length ≤ 1000000) : Gv Try.prog 31 [.slice A a.length c, .slice B a.length d] w (.bool true) :=
  ((same_ints a a A B c d w ha hb hl hl).of (by simp)).gv
theorem sts_self (a : List St) (A B : Option Addr) (c d : Nat) (w : World) (ha : SlAt encSt 9 w A a) (hb : SlAt encSt 9 w B a) (hl : a.length ≤ 1000000) : Gv Try.prog 32 [.agg #[.slice A a.length c], .agg #[.slice B a.length d]] w (.bool true) :=
  ((same_any a a A B c d w ha hb hl hl).of (by simp)).gv
theorem great_m (A : Option Addr) (n c : Nat) (w : World) : Gv Try.prog 16 [.agg #[.slice A n c]] w (.bool (decide (20 < n))) := (great_any A n c w).gv
theorem foot_sl {base k : Nat} {α : Type} {enc : α → List Value} {A : Option Addr} {xs : List α} {H H' : List Ent} {w : World} (ho : Own base w H) (ht : Take H (.sl enc k A xs) H') : ∀ b o, A = some ⟨b, o, none⟩ → b < w.heap.size := fun b o e =>
  (ho.foot _ ht.mem b ⟨o, e⟩).2

/-! ### maps -/
section
variable {P : Program} {w0 : World} {n : Nat} {d : List Deferred} {R : List (Nat × Value)} {H H' : List Ent} {Q : Exit → Act → World → Prop} {ops : Array Oper} {rest : List Oper} {o : Oper} {t : Tmp} {x y z : Operand} {v : Value}
theorem u_delete {T1 T2 kt et : TypeId} {s m c j : Nat} {g : Bool} {kd : IntKind} {es : Array MapEntry} {i : Int} {e : MapEntry} (hop : o.op = .call { callee := .builtin .delete, args := #[x, y], argTypes := #[T1, T2] }) [i1 : TyI P T1 (.map kt et) s g] (hkt : P.underlying kt = some (.int kd)) (hw : want R ops o = some true) (hd : o.dst = none) (hx : evR R x = some (.map (some m))) (hy : evR R y = some (.int kd i)) (ht : Take H (.map m es c) H')
    (hk : ∀ e ∈ es.toList, ∃ l, e.key = .int kd l) (hj : es.toList[j]? = some e) (hje : e.key = .int kd i) (hjf : ∀ k' y, k' < j → es.toList[k']? = some y → y.key ≠ .int kd i) (h : U w0 n d R (.map m (es.eraseIdxIfInBounds j) c :: H') (wpList P ops Q rest)) : U w0 n d R H (wpList P ops Q (o :: rest)) :=
  u_op hw fun a w q K hK => by
    have ho := q.own.take ht
    have hb : w.heap[m]? = some (.map es c) := ho.here (.map m es c) (by simp)
    have hf := ho.foot (.map m es c) (by simp) m rfl
    have e1 := run_underlying i1.und w
    have e2 := run_checkKey_int (P := P) (w := w) (e := es.isEmpty) (N := 9999) (i := i) hkt
    have e3 : (Instr.findKey kt (.int kd i) es.toList).run P w = .ok (some (0 + j, e.val)) w := by
      have := run_underlying hkt w
      simp only [Instr.findKey, Sem.run_bind, this, Result.andThen_ok, findNow_some es.toList 0 j e hk hj hje hjf, Sem.run_pure]
    have hrun : (Builtin.delete_ #[T1, T2] o.type #[.map (some m), .int kd i]).run P w = .ok (.tuple #[]) (setBlock w m (.map (es.eraseIdxIfInBounds j) c)) := by
      simp [Builtin.delete_, Sem.run_bind, e1, getObj, Sem.run, hb, e2, e3, setObj, setBlock]
    unfold Oper.wp execOp
    simp only [hop, resolve, invoke, builtin, Sem.run_bind, Sem.run_pure, Result.andThen_ok, List.map_toArray, List.map_cons, List.map_nil, q.ev hx, q.ev hy, hrun, Oper.upon_value, hd]
    exact hK _ _ (h _ _ (q.heap (q.below.trans (below_setBlk hf.1)) (own_setBlk ho q.base)))
end
end Go.Proofs.Ytekjkaoibcfgfaa
