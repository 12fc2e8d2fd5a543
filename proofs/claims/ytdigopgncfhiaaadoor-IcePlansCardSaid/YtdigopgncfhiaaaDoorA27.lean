/- Ice: sets of hours as numbers and as lists. -/
import Derived.Test.YtdigopgncfhiaaaDoorA17
import Derived.Test.YtdigopgncfhiaaaDoorA23
import Derived.Test.YtdigopgncfhiaaaDoorA11
import Derived.Laws.MakeOwn
namespace Go.Proofs.YtdigopgncfhiaaaDoor
open Go.RowKit
set_option linter.unusedSimpArgs false
set_option linter.unusedVariables false
set_option maxRecDepth 20000
/-- what is in a set, below k -/
def setL (m k : Nat) : List Int := ((List.range k).filter m.testBit).map fun h : Nat => (h : Int)
theorem setL_yes {m k : Nat} (h : m.testBit k = true) : setL m (k + 1) = setL m k ++ [(k : Int)] := by
  simp [setL, List.range_succ, List.filter_append, h]
theorem setL_no {m k : Nat} (h : m.testBit k = false) : setL m (k + 1) = setL m k := by
  simp [setL, List.range_succ, List.filter_append, h]
theorem setL_stop {m i : Nat} (h : m < 2 ^ i) : ∀ d, setL m (i + d) = setL m i
  | 0 => rfl
  | d + 1 => by
    rw [← Nat.add_assoc, setL_no (Nat.testBit_lt_two_pow (Nat.lt_of_lt_of_le h (Nat.pow_le_pow_right (by omega) (by omega)))), setL_stop h d]
theorem setL_len (m k : Nat) : (setL m k).length ≤ k := by
  have := List.length_filter_le m.testBit (List.range k)
  simpa [setL] using this
theorem shr_zero {m i : Nat} : m >>> i = 0 ↔ m < 2 ^ i := by
  rw [Nat.shiftRight_eq_div_pow, Nat.div_eq_zero_iff_lt (Nat.pow_pos (by omega))]
set_option maxHeartbeats 1000000 in
theorem members_any (m : Nat) (w : World) (hm : m < 2 ^ 12) :
    Ret Tryd.prog 51 [.int .i64 (m : Int)] w (fun p : Option Addr × Nat => .slice p.1 (setL m 12).length p.2) (fun p => [.row encI 1 3 (.slice p.1 (setL m 12).length p.2) (setL m 12)]) (fun _ => True) := by
  have hm2 : m < 4096 := hm
  (refine ret_enter (n := 21) Tryd.func51 rfl rfl rfl ?_)
  (repeat' (first | ((with_reducible refine isOps ?_); first | refine u_assign rfl rfl rfl rfl rfl ?_) | (with_reducible first | refine u_seq ?_ | refine u_region ?_ | refine u_nil ?_ | refine u_then_n ?_ | refine u_block ?_)))
  refine u_rowNil (enc := encI) (k := 1) (e := 3) ?_
  refine u_loopP (ι := Nat × Option Addr × Nat) [0] rfl (fun p => p.1 ≤ 12) (fun p => [(4, .int .i64 (p.1 : Int)), (3, .slice p.2.1 (setL m p.1).length p.2.2)]) (fun p => [.row encI 1 3 (.slice p.2.1 (setL m p.1).length p.2.2) (setL m p.1)]) (fun p => 12 - p.1) (0, none, 0) (Nat.zero_le _) (by (first | exact fun _ _ h => lk_nil h | (repeat (first | exact (fun _ _ h => lk_nil h) | (refine lk_sub rfl ?_))))) (by (repeat (first | exact Out.nil _ | (refine Out.cons (by (repeat (first | exact Take.here _ _ | apply Take.there))) ?_)))) ?_
  rintro ⟨i, A1, c1⟩ hi
  simp only at hi
  simp only [zipR, List.cons_append, List.nil_append]
  have hle : m >>> i ≤ m := Nat.shiftRight_le m i
  have hz := shr_zero (m := m) (i := i)
  have hb1 := bit_one (m := m) (h := i)
  have hsl := setL_len m i
  by_cases h0 : m < 2 ^ i
  · have h1 := hz.2 h0
    have e : setL m 12 = setL m i := by
      have := setL_stop h0 (12 - i)
      rwa [show i + (12 - i) = 12 by omega] at this
    rw [e]
    (repeat' (first | ((with_reducible refine isOps ?_); first | refine u_move rfl rfl rfl rfl rfl ?_ | refine u_assign rfl rfl rfl rfl rfl ?_ | (refine u_cmp rfl rfl rfl rfl rfl rfl rfl (fun h => ?_) (fun h => ?_) <;> (dsimp only [cmpP] at h; (try (exfalso; omega)))) | refine u_val rfl rfl rfl (e_shr rfl rfl rfl (by omega)) ?_) | (with_reducible first | refine u_seq ?_ | refine u_region ?_ | refine u_nil ?_ | refine u_then_n ?_ | refine u_ret ?_ | refine u_exit ?_ | refine u_in_same ?_ | refine u_then_e ?_) | ((with_reducible refine u_cond_f ?_ ?_); (· exact rfl))))
    exact u_done (by (exact ResL.cons (by exact Res1.tmp rfl) ResL.nil)) (A1, c1) trivial rfl (fun _ h => h.sub (by (repeat (first | exact Out.nil _ | (refine Out.cons (by (repeat (first | exact Take.here _ _ | apply Take.there))) ?_)))))
  · have h1 : m >>> i ≠ 0 := fun e => h0 (hz.1 e)
    have h1p : (0 : Int) < ((m >>> i : Nat) : Int) := Int.natCast_pos.2 (Nat.pos_of_ne_zero h1)
    have hi2 : i < 12 := by
      rcases Nat.lt_or_ge i 12 with h | h
      · exact h
      · exact absurd (Nat.lt_of_lt_of_le hm (Nat.pow_le_pow_right (by omega) h)) h0
    cases hbit : m.testBit i with
    | true =>
      have h2 : (m >>> i) % 2 = 1 := by rw [hbit] at hb1; exact of_decide_eq_true hb1.symm
      have e1 := setL_yes hbit
      (repeat' (first | ((with_reducible refine isOps ?_); first | refine u_move rfl rfl rfl rfl rfl ?_ | refine u_assign rfl rfl rfl rfl rfl ?_ | (refine u_cmp rfl rfl rfl rfl rfl rfl rfl (fun h => ?_) (fun h => ?_) <;> (dsimp only [cmpP] at h; (try (exfalso; omega)))) | refine u_val rfl rfl rfl (e_shr rfl rfl rfl (by omega)) ?_ | refine u_val rfl rfl rfl (e_and1 rfl rfl rfl (by omega)) ?_ | (refine u_append (enc := encI) [_] rfl rfl rfl rfl rfl (by (repeat (first | exact Take.here _ _ | apply Take.there))) rfl rfl (src_one (by exact rfl)) (by refine ⟨?_, by decide⟩; (try simp only [List.length_append, List.length_cons, List.length_nil]); omega) (fun A' c' => ?_)) | refine u_add1 rfl rfl rfl rfl rfl rfl (by omega) ?_ | (refine x_buildSlice rfl rfl rfl rfl rfl ?_; refine ⟨rfl, _, rfl, fun b => ?_⟩)) | (with_reducible first | refine u_seq ?_ | refine u_region ?_ | refine u_nil ?_ | refine u_then_n ?_ | refine u_skip ?_ | refine u_block ?_ | refine u_in_n ?_) | ((with_reducible refine u_cond_t ?_ ?_); (· exact rfl))))
      refine u_again (ι := Nat × Option Addr × Nat) (i + 1, A', c') (by simp only; omega) (by simp only; omega) (by simp only [e1]; (first | exact fun _ _ h => lk_nil h | (repeat (first | exact (fun _ _ h => lk_nil h) | (refine lk_sub rfl ?_))))) ?_
      simp only [e1]
      (repeat (first | exact Out.nil _ | (refine Out.cons (by (repeat (first | exact Take.here _ _ | apply Take.there))) ?_)))
    | false =>
      have h2 : (m >>> i) % 2 = 0 := by
        rw [hbit] at hb1
        have h3 := of_decide_eq_false hb1.symm
        exact (Nat.mod_two_eq_zero_or_one (m >>> i)).resolve_right h3
      have e1 := setL_no hbit
      (repeat' (first | ((with_reducible refine isOps ?_); first | refine u_move rfl rfl rfl rfl rfl ?_ | refine u_assign rfl rfl rfl rfl rfl ?_ | (refine u_cmp rfl rfl rfl rfl rfl rfl rfl (fun h => ?_) (fun h => ?_) <;> (dsimp only [cmpP] at h; (try (exfalso; omega)))) | refine u_val rfl rfl rfl (e_shr rfl rfl rfl (by omega)) ?_ | refine u_val rfl rfl rfl (e_and1 rfl rfl rfl (by omega)) ?_ | refine u_add1 rfl rfl rfl rfl rfl rfl (by omega) ?_) | (with_reducible first | refine u_seq ?_ | refine u_region ?_ | refine u_nil ?_ | refine u_then_n ?_ | refine u_skip ?_ | refine u_block ?_ | refine u_in_n ?_) | ((with_reducible refine u_cond_t ?_ ?_); (· exact rfl)) | ((with_reducible refine u_cond_f ?_ ?_); (· exact rfl))))
      refine u_again (ι := Nat × Option Addr × Nat) (i + 1, A1, c1) (by simp only; omega) (by simp only; omega) (by simp only [e1]; (first | exact fun _ _ h => lk_nil h | (repeat (first | exact (fun _ _ h => lk_nil h) | (refine lk_sub rfl ?_))))) ?_
      simp only [e1]
      (repeat (first | exact Out.nil _ | (refine Out.cons (by (repeat (first | exact Take.here _ _ | apply Take.there))) ?_)))
/-- fewer first, and as words -/
def lexB : List Int → List Int → Bool
  | x :: a, y :: b => if x = y then lexB a b else decide (x < y)
  | _, _ => false
def befB (a b : List Int) : Bool := if a.length = b.length then lexB a b else decide (a.length < b.length)
theorem lexB_drop {a b : List Int} {i : Nat} {x y : Int} (h1 : a[i]? = some x) (h2 : b[i]? = some y) : lexB (a.drop i) (b.drop i) = if x = y then lexB (a.drop (i + 1)) (b.drop (i + 1)) else decide (x < y) := by
  obtain ⟨i1, rfl⟩ := List.getElem?_eq_some_iff.1 h1
  obtain ⟨i2, rfl⟩ := List.getElem?_eq_some_iff.1 h2
  rw [List.drop_eq_getElem_cons i1, List.drop_eq_getElem_cons i2]; rfl
set_option maxHeartbeats 1000000 in
theorem before_any (a : List Int) (A : Option Addr) (ca : Nat) (m : List Int) (B : Option Addr) (cb : Nat) (w : World) (ha : SlAt encI 1 w A a) (hm : SlAt encI 1 w B m) (h1 : a.length ≤ 1000) (h2 : m.length ≤ 1000) :
    Gv Tryd.prog 53 [.slice A a.length ca, .slice B m.length cb] w (.bool (befB a m)) := by
  unfold Gv befB
  (refine ret_enter (n := 40) Tryd.func53 rfl rfl rfl ?_)
  by_cases hl : a.length = m.length
  · rw [if_pos hl]
    (repeat' (first | ((with_reducible refine isOps ?_); first | refine u_move rfl rfl rfl rfl rfl ?_ | refine u_assign rfl rfl rfl rfl rfl ?_ | (refine u_cmp rfl rfl rfl rfl rfl rfl rfl (fun h => ?_) (fun h => ?_) <;> (dsimp only [cmpP] at h; (try (exfalso; omega)))) | refine u_len rfl rfl rfl rfl rfl ?_) | (with_reducible first | refine u_seq ?_ | refine u_region ?_ | refine u_nil ?_ | refine u_then_n ?_ | refine u_skip ?_ | refine u_block ?_) | ((with_reducible refine u_cond_f ?_ ?_); (· exact rfl))))
    refine u_loopP (ι := Nat) [0, 1] rfl (fun i => i ≤ a.length ∧ lexB (a.drop i) (m.drop i) = lexB a m) (fun i => [(5, .int .i64 (i : Int))]) (fun _ => []) (fun i => a.length - i) 0 ⟨Nat.zero_le _, rfl⟩ (by (first | exact fun _ _ h => lk_nil h | (repeat (first | exact (fun _ _ h => lk_nil h) | (refine lk_sub rfl ?_))))) (by (repeat (first | exact Out.nil _ | (refine Out.cons (by (repeat (first | exact Take.here _ _ | apply Take.there))) ?_)))) ?_
    rintro i ⟨hi, hlx⟩
    simp only [zipR, List.cons_append, List.nil_append]
    by_cases hlt : i < a.length
    · obtain ⟨x, hx⟩ : ∃ x, a[i]? = some x := ⟨_, List.getElem?_eq_getElem hlt⟩
      obtain ⟨y, hy⟩ : ∃ y, m[i]? = some y := ⟨_, List.getElem?_eq_getElem (by omega)⟩
      rw [lexB_drop hx hy] at hlx
      obtain ⟨b1, o1, rfl, _, _⟩ := ha.at_ hlt
      obtain ⟨b2, o2, rfl, _, _⟩ := hm.at_ (i := i) (by omega)
      have : InS w b1 o1 encI 1 a := ⟨ha⟩
      have : InS w b2 o2 encI 1 m := ⟨hm⟩
      have : GetI a i x := ⟨hx⟩
      have : GetI m i y := ⟨hy⟩
      by_cases hxy : x = y
      · rw [if_pos hxy] at hlx
        subst hxy
        (repeat' (first | ((with_reducible refine isOps ?_); first | refine u_move rfl rfl rfl rfl rfl ?_ | (refine u_cmp rfl rfl rfl rfl rfl rfl rfl (fun h => ?_) (fun h => ?_) <;> (dsimp only [cmpP] at h; (try (exfalso; omega)))) | refine u_len rfl rfl rfl rfl rfl ?_) | (with_reducible first | refine u_seq ?_ | refine u_region ?_ | refine u_nil ?_ | refine u_then_n ?_ | refine u_skip ?_ | refine u_block ?_) | ((with_reducible refine u_cond_t ?_ ?_); (· exact rfl))))
        (refine u_quiet (by kernel_rfl) (by kernel_rfl) (by kernel_rfl) ?_)
        (repeat' (first | ((with_reducible refine isOpsQ ?_); first | refine q_val (e_move rfl rfl) rfl rfl rfl ?_ | refine q_val (e_load' rfl rfl (by exact rfl)) rfl rfl rfl ?_ | (refine q_cmp rfl rfl rfl rfl rfl rfl rfl (fun h => ?_) (fun h => ?_) <;> (dsimp only [cmpP] at h; (try (exfalso; omega)))) | refine q_val (e_index rfl rfl rfl rfl (by omega)) rfl rfl rfl ?_) | (with_reducible refine q_nil ?_)))
        all_goals (repeat' (first | ((with_reducible refine isOps ?_); first | refine u_move rfl rfl rfl rfl rfl ?_ | refine u_assign rfl rfl rfl rfl rfl ?_ | refine u_add1 rfl rfl rfl rfl rfl rfl (by omega) ?_) | (with_reducible first | refine u_region ?_ | refine u_nil ?_ | refine u_then_n ?_ | refine u_skip ?_ | refine u_in_n ?_) | ((with_reducible refine u_cond_f ?_ ?_); (· exact rfl))))
        all_goals exact u_again (ι := Nat) (i + 1) (by exact ⟨by omega, hlx⟩) (by omega) (by (first | exact fun _ _ h => lk_nil h | (repeat (first | exact (fun _ _ h => lk_nil h) | (refine lk_sub rfl ?_))))) (by (repeat (first | exact Out.nil _ | (refine Out.cons (by (repeat (first | exact Take.here _ _ | apply Take.there))) ?_))))
      · rw [if_neg hxy] at hlx
        rw [← hlx]
        (repeat' (first | ((with_reducible refine isOps ?_); first | refine u_move rfl rfl rfl rfl rfl ?_ | (refine u_cmp rfl rfl rfl rfl rfl rfl rfl (fun h => ?_) (fun h => ?_) <;> (dsimp only [cmpP] at h; (try (exfalso; omega)))) | refine u_len rfl rfl rfl rfl rfl ?_) | (with_reducible first | refine u_seq ?_ | refine u_region ?_ | refine u_nil ?_ | refine u_then_n ?_ | refine u_skip ?_ | refine u_block ?_) | ((with_reducible refine u_cond_t ?_ ?_); (· exact rfl))))
        (refine u_quiet (by kernel_rfl) (by kernel_rfl) (by kernel_rfl) ?_)
        (repeat' (first | ((with_reducible refine isOpsQ ?_); first | refine q_val (e_move rfl rfl) rfl rfl rfl ?_ | refine q_val (e_load' rfl rfl (by exact rfl)) rfl rfl rfl ?_ | (refine q_cmp rfl rfl rfl rfl rfl rfl rfl (fun h => ?_) (fun h => ?_) <;> (dsimp only [cmpP] at h; (try (exfalso; omega)))) | refine q_val (e_index rfl rfl rfl rfl (by omega)) rfl rfl rfl ?_) | (with_reducible refine q_nil ?_)))
        all_goals (repeat' (first | (with_reducible first | refine u_seq ?_ | refine u_then_n ?_) | ((with_reducible refine u_cond_t ?_ ?_); (· exact rfl))))
        all_goals (refine u_quiet (by kernel_rfl) (by kernel_rfl) (by kernel_rfl) ?_)
        all_goals (repeat' (first | ((with_reducible refine isOpsQ ?_); first | refine q_val (e_move rfl rfl) rfl rfl rfl ?_ | refine q_val (e_load' rfl rfl (by exact rfl)) rfl rfl rfl ?_ | refine q_val (e_assign rfl rfl) rfl rfl rfl ?_ | (refine q_cmp rfl rfl rfl rfl rfl rfl rfl (fun h => ?_) (fun h => ?_) <;> (dsimp only [cmpP] at h; (try (exfalso; omega)))) | refine q_val (e_index rfl rfl rfl rfl (by omega)) rfl rfl rfl ?_) | (with_reducible refine q_nil ?_)))
        all_goals (repeat' (first | (with_reducible first | refine u_then_n ?_ | refine u_ret ?_ | refine u_then_r ?_ | refine u_in_r ?_)))
        all_goals exact u_done (by (exact ResL.cons (by exact Res1.tmp rfl) ResL.nil)) () trivial (by simp [resV]; omega) (fun _ h => h.sub (by (repeat (first | exact Out.nil _ | (refine Out.cons (by (repeat (first | exact Take.here _ _ | apply Take.there))) ?_)))))
    · obtain rfl : i = a.length := by omega
      have e : lexB a m = false := by rw [← hlx, List.drop_length]; rfl
      rw [e]
      (repeat' (first | ((with_reducible refine isOps ?_); first | refine u_move rfl rfl rfl rfl rfl ?_ | refine u_assign rfl rfl rfl rfl rfl ?_ | (refine u_cmp rfl rfl rfl rfl rfl rfl rfl (fun h => ?_) (fun h => ?_) <;> (dsimp only [cmpP] at h; (try (exfalso; omega)))) | refine u_len rfl rfl rfl rfl rfl ?_) | (with_reducible first | refine u_seq ?_ | refine u_region ?_ | refine u_nil ?_ | refine u_then_n ?_ | refine u_ret ?_ | refine u_exit ?_ | refine u_in_same ?_ | refine u_then_e ?_) | ((with_reducible refine u_cond_f ?_ ?_); (· exact rfl))))
      exact u_done (by (exact ResL.cons (by exact Res1.tmp rfl) ResL.nil)) () trivial rfl (fun _ h => h.sub (by (repeat (first | exact Out.nil _ | (refine Out.cons (by (repeat (first | exact Take.here _ _ | apply Take.there))) ?_)))))
  · rw [if_neg hl]
    (repeat' (first | ((with_reducible refine isOps ?_); first | refine u_move rfl rfl rfl rfl rfl ?_ | refine u_assign rfl rfl rfl rfl rfl ?_ | (refine u_cmp rfl rfl rfl rfl rfl rfl rfl (fun h => ?_) (fun h => ?_) <;> (dsimp only [cmpP] at h; (try (exfalso; omega)))) | refine u_len rfl rfl rfl rfl rfl ?_) | (with_reducible first | refine u_seq ?_ | refine u_region ?_ | refine u_nil ?_ | refine u_then_n ?_ | refine u_ret ?_ | refine u_then_r ?_) | ((with_reducible refine u_cond_t ?_ ?_); (· exact rfl))))
    all_goals exact u_done (by (exact ResL.cons (by exact Res1.tmp rfl) ResL.nil)) () trivial (by simp [resV]; omega) (fun _ h => h.sub (by (repeat (first | exact Out.nil _ | (refine Out.cons (by (repeat (first | exact Take.here _ _ | apply Take.there))) ?_)))))
end Go.Proofs.YtdigopgncfhiaaaDoor
/- Ice: the order of sets, by the program; how many bits. -/
namespace Go.Proofs.YtdigopgncfhiaaaDoor
open Go.RowKit
set_option linter.unusedSimpArgs false
set_option linter.unusedVariables false
set_option maxRecDepth 20000
section
variable {ro : Option Nat} {P : Program} {w0 : World} {n : Nat} {d : List Deferred} {R : List (Nat × Value)} {H : List Ent} {Q : Exit → Act → World → Prop} {ops : Array Oper} {rest : List Oper} {o : Oper} {t : Tmp} {x y : Operand} {T T' : TypeId} {k : IntKind} {i j : Int}
def isAny2 : BinOp → Bool
  | .add | .and => true
  | _ => false
theorem u_any2 {c : BinOp} (hop : o.op = .binOp c T x y T') (hc : isAny2 c = true) (hw : want R ops o = some true) (hd : o.dst = some t) (ht : Nat.blt t n = true) (hx : evR R x = some (.int k i)) (hy : evR R y = some (.int k j)) (h : ∀ z, U w0 n d ((t, .int k z) :: R) H (wpL ro P ops Q rest)) : U w0 n d R H (wpL ro P ops Q (o :: rest)) := by
  have key : ∃ z, ∀ a w, Kn w0 n d R H a w → (execOp a.eval o).run P w = .ok (.value (.int k z)) w := by
    cases c <;> simp only [isAny2, Bool.false_eq_true] at hc
    · exact ⟨k.wrap (i + j), fun a w q => by unfold execOp; rw [hop]; simp [q.ev hx, q.ev hy, eqGuard, binOp, Op.intArith]⟩
    · exact ⟨_, fun a w q => by unfold execOp; rw [hop]; simp only [Sem.run_bind, q.ev hx, q.ev hy, eqGuard, binOp, Op.intBits, ne_eq, not_true_eq_false, if_false, Bool.not_false, if_true, Sem.run_pure, Result.andThen_ok]; rfl⟩
  obtain ⟨z, hz⟩ := key
  exact u_val hw hd ht hz (h z)
end
theorem ones64_any (z : Int) (w : World) : Ret Tryd.prog 94 [.int .u64 z] w (fun m : Nat => .int .i64 (m : Int)) (fun _ => []) (fun m => m ≤ 127) := by
  (refine ret_enter (n := 35) Tryd.func94 rfl rfl rfl ?_)
  (repeat' (first | ((with_reducible refine isOps ?_); first | refine u_move rfl rfl rfl rfl rfl ?_ | refine u_assign rfl rfl rfl rfl rfl ?_ | refine u_and127 rfl rfl rfl rfl rfl rfl (fun m hm => ?_) | refine u_any2 rfl rfl rfl rfl rfl rfl rfl (fun _ => ?_) | refine u_anyShr rfl rfl rfl rfl rfl rfl (by omega) (fun _ => ?_) | refine u_anyConv rfl rfl rfl rfl rfl (fun _ => ?_)) | (with_reducible first | refine u_seq ?_ | refine u_region ?_ | refine u_nil ?_ | refine u_then_n ?_ | refine u_ret ?_)))
  exact u_done (by (exact ResL.cons (by exact Res1.tmp rfl) ResL.nil)) m hm rfl (fun _ h => h.sub (by (repeat (first | exact Out.nil _ | (refine Out.cons (by (repeat (first | exact Take.here _ _ | apply Take.there))) ?_)))))
theorem ones_any (z : Int) (w : World) : Ret Tryd.prog 47 [.int .u64 z] w (fun m : Nat => .int .i64 (m : Int)) (fun _ => []) (fun m => m ≤ 127) := by
  (refine ret_enter (n := 8) Tryd.func47 rfl rfl rfl ?_)
  (repeat' (first | ((with_reducible refine isOps ?_); first | refine u_move rfl rfl rfl rfl rfl ?_ | refine u_assign rfl rfl rfl rfl rfl ?_ | (refine u_call rfl rfl rfl rfl rfl rfl (fun _ _ q => ones64_any _ _) ?_; rintro m hm; dsimp only [List.cons_append, List.nil_append])) | (with_reducible first | refine u_seq ?_ | refine u_region ?_ | refine u_nil ?_ | refine u_then_n ?_ | refine u_ret ?_ | refine u_skip ?_) | ((with_reducible refine u_cond_f ?_ ?_); (· exact rfl))))
  exact u_done (by (exact ResL.cons (by exact Res1.tmp rfl) ResL.nil)) m hm rfl (fun _ h => h.sub (by (repeat (first | exact Out.nil _ | (refine Out.cons (by (repeat (first | exact Take.here _ _ | apply Take.there))) ?_)))))
theorem isNaN_any (x : Int) (w : World) : Gv Tryd.prog 121 [.int .i64 x] w (.bool false) := by
  unfold Gv
  (refine ret_enter (n := 6) Tryd.func121 rfl rfl rfl ?_)
  (repeat' (first | ((with_reducible refine isOps ?_); first | refine u_move rfl rfl rfl rfl rfl ?_ | refine u_assign rfl rfl rfl rfl rfl ?_ | (refine u_cmp rfl rfl rfl rfl rfl rfl rfl (fun h => ?_) (fun h => ?_) <;> (dsimp only [cmpP] at h; (try (exfalso; omega))))) | (with_reducible first | refine u_seq ?_ | refine u_region ?_ | refine u_nil ?_ | refine u_then_n ?_ | refine u_ret ?_)))
  exact u_done (by (exact ResL.cons (by exact Res1.tmp rfl) ResL.nil)) () trivial rfl (fun _ h => h.sub (by (repeat (first | exact Out.nil _ | (refine Out.cons (by (repeat (first | exact Take.here _ _ | apply Take.there))) ?_)))))
def cmpI (x y : Int) : Int := if x < y then -1 else if y < x then 1 else 0
theorem cmp_any (x y : Int) (w : World) : Gv Tryd.prog 96 [.int .i64 x, .int .i64 y] w (.int .i64 (cmpI x y)) := by
  unfold Gv cmpI
  (refine ret_enter (n := 20) Tryd.func96 rfl rfl rfl ?_)
  (repeat' (first | ((with_reducible refine isOps ?_); first | refine u_move rfl rfl rfl rfl rfl ?_ | refine u_assign rfl rfl rfl rfl rfl ?_ | (refine u_cmp rfl rfl rfl rfl rfl rfl rfl (fun h => ?_) (fun h => ?_) <;> (dsimp only [cmpP] at h; (try (exfalso; omega)))) | refine u_gives rfl rfl rfl rfl rfl rfl (fun _ _ q => isNaN_any _ _) ?_) | (with_reducible first | refine u_seq ?_ | refine u_region ?_ | refine u_nil ?_ | refine u_then_n ?_ | refine u_ret ?_ | refine u_skip ?_ | refine u_then_r ?_) | ((with_reducible refine u_cond_t ?_ ?_); (· exact rfl)) | ((with_reducible refine u_cond_f ?_ ?_); (· exact rfl))))
  all_goals exact u_done (by (exact ResL.cons (by exact Res1.tmp rfl) ResL.nil)) () trivial (by simp only [resV]; congr 1; omega) (fun _ h => h.sub (by (repeat (first | exact Out.nil _ | (refine Out.cons (by (repeat (first | exact Take.here _ _ | apply Take.there))) ?_)))))
/-- as words -/
def cmpL : List Int → List Int → Int
  | x :: a, y :: b => if cmpI x y = 0 then cmpL a b else cmpI x y
  | _, _ => 0
theorem cmpL_drop {a b : List Int} {i : Nat} {x y : Int} (h1 : a[i]? = some x) (h2 : b[i]? = some y) : cmpL (a.drop i) (b.drop i) = if cmpI x y = 0 then cmpL (a.drop (i + 1)) (b.drop (i + 1)) else cmpI x y := by
  obtain ⟨i1, rfl⟩ := List.getElem?_eq_some_iff.1 h1
  obtain ⟨i2, rfl⟩ := List.getElem?_eq_some_iff.1 h2
  rw [List.drop_eq_getElem_cons i1, List.drop_eq_getElem_cons i2]; rfl
theorem cmpL_lex : ∀ (a b : List Int), cmpL a b < 0 ↔ lexB a b = true
  | [], _ => by simp [cmpL, lexB]
  | _ :: _, [] => by simp [cmpL, lexB]
  | x :: a, y :: b => by
    simp only [cmpL, lexB]
    by_cases e : x = y
    · subst e
      rw [if_pos rfl, if_pos (by simp [cmpI])]
      exact cmpL_lex a b
    · rw [if_neg e]
      unfold cmpI
      by_cases h : x < y
      · simp [h]
      · have : y < x := by omega
        simp [h, this]
set_option maxHeartbeats 1000000 in
theorem compares_any (a : List Int) (A : Option Addr) (ca : Nat) (m : List Int) (B : Option Addr) (cb : Nat) (w : World) (ha : SlAt encI 1 w A a) (hm : SlAt encI 1 w B m) (h1 : a.length ≤ 1000) (hl : a.length = m.length) :
    Gv Tryd.prog 50 [.slice A a.length ca, .slice B m.length cb] w (.int .i64 (cmpL a m)) := by
  unfold Gv
  (refine ret_enter (n := 36) Tryd.func50 rfl rfl rfl ?_)
  (repeat' (first | ((with_reducible refine isOps ?_); first | refine u_move rfl rfl rfl rfl rfl ?_ | refine u_assign rfl rfl rfl rfl rfl ?_ | refine u_len rfl rfl rfl rfl rfl ?_) | (with_reducible first | refine u_seq ?_ | refine u_region ?_ | refine u_nil ?_ | refine u_then_n ?_ | refine u_block ?_)))
  refine u_loopP (ι := Nat) [0, 1, 9, 10] rfl (fun i => i ≤ a.length ∧ cmpL (a.drop i) (m.drop i) = cmpL a m) (fun i => [(11, .int .i64 (i : Int))]) (fun _ => []) (fun i => a.length - i) 0 ⟨Nat.zero_le _, rfl⟩ (by (first | exact fun _ _ h => lk_nil h | (repeat (first | exact (fun _ _ h => lk_nil h) | (refine lk_sub rfl ?_))))) (by (repeat (first | exact Out.nil _ | (refine Out.cons (by (repeat (first | exact Take.here _ _ | apply Take.there))) ?_)))) ?_
  rintro i ⟨hi, hlx⟩
  simp only [zipR, List.cons_append, List.nil_append]
  by_cases hlt : i < a.length
  · obtain ⟨x, hx⟩ : ∃ x, a[i]? = some x := ⟨_, List.getElem?_eq_getElem hlt⟩
    obtain ⟨y, hy⟩ : ∃ y, m[i]? = some y := ⟨_, List.getElem?_eq_getElem (by omega)⟩
    rw [cmpL_drop hx hy] at hlx
    obtain ⟨b1, o1, rfl, _, _⟩ := ha.at_ hlt
    obtain ⟨b2, o2, rfl, _, _⟩ := hm.at_ (i := i) (by omega)
    have : InS w b1 o1 encI 1 a := ⟨ha⟩
    have : InS w b2 o2 encI 1 m := ⟨hm⟩
    have : GetI a i x := ⟨hx⟩
    have : GetI m i y := ⟨hy⟩
    have hcm := fun W => cmp_any x y W
    generalize cmpI x y = z at *
    by_cases hz : z = 0
    · rw [if_pos hz] at hlx
      (repeat' (first | ((with_reducible refine isOps ?_); first | refine u_move rfl rfl rfl rfl rfl ?_ | refine u_assign rfl rfl rfl rfl rfl ?_ | (refine x_load rfl rfl rfl rfl rfl ?_; refine ⟨_, rfl, ?_⟩) | (refine u_cmp rfl rfl rfl rfl rfl rfl rfl (fun h => ?_) (fun h => ?_) <;> (dsimp only [cmpP] at h; (try (exfalso; omega)))) | refine u_gives rfl rfl rfl rfl rfl rfl (fun _ _ q => hcm _) ?_ | refine u_add1 rfl rfl rfl rfl rfl rfl (by omega) ?_ | refine u_index rfl rfl rfl rfl rfl rfl rfl (by omega) ?_ | refine u_len rfl rfl rfl rfl rfl ?_) | (with_reducible first | refine u_seq ?_ | refine u_region ?_ | refine u_nil ?_ | refine u_then_n ?_ | refine u_skip ?_ | refine u_block ?_ | refine u_in_n ?_) | ((with_reducible refine u_cond_t ?_ ?_); (· exact rfl)) | ((with_reducible refine u_cond_f ?_ ?_); (· exact rfl))))
      all_goals exact u_again (ι := Nat) (i + 1) (by exact ⟨by omega, hlx⟩) (by omega) (by (first | exact fun _ _ h => lk_nil h | (repeat (first | exact (fun _ _ h => lk_nil h) | (refine lk_sub rfl ?_))))) (by (repeat (first | exact Out.nil _ | (refine Out.cons (by (repeat (first | exact Take.here _ _ | apply Take.there))) ?_))))
    · rw [if_neg hz] at hlx
      rw [← hlx]
      (repeat' (first | ((with_reducible refine isOps ?_); first | refine u_move rfl rfl rfl rfl rfl ?_ | refine u_assign rfl rfl rfl rfl rfl ?_ | (refine x_load rfl rfl rfl rfl rfl ?_; refine ⟨_, rfl, ?_⟩) | (refine u_cmp rfl rfl rfl rfl rfl rfl rfl (fun h => ?_) (fun h => ?_) <;> (dsimp only [cmpP] at h; (try (exfalso; omega)))) | refine u_gives rfl rfl rfl rfl rfl rfl (fun _ _ q => hcm _) ?_ | refine u_index rfl rfl rfl rfl rfl rfl rfl (by omega) ?_ | refine u_len rfl rfl rfl rfl rfl ?_) | (with_reducible first | refine u_seq ?_ | refine u_region ?_ | refine u_nil ?_ | refine u_then_n ?_ | refine u_ret ?_ | refine u_skip ?_ | refine u_then_r ?_ | refine u_block ?_ | refine u_in_r ?_) | ((with_reducible refine u_cond_t ?_ ?_); (· exact rfl)) | ((with_reducible refine u_cond_f ?_ ?_); (· exact rfl))))
      all_goals exact u_done (by (exact ResL.cons (by exact Res1.tmp rfl) ResL.nil)) () trivial rfl (fun _ h => h.sub (by (repeat (first | exact Out.nil _ | (refine Out.cons (by (repeat (first | exact Take.here _ _ | apply Take.there))) ?_)))))
  · obtain rfl : i = a.length := by omega
    have e : cmpL a m = 0 := by rw [← hlx, List.drop_length]; rfl
    rw [e]
    (repeat' (first | ((with_reducible refine isOps ?_); first | refine u_move rfl rfl rfl rfl rfl ?_ | refine u_assign rfl rfl rfl rfl rfl ?_ | (refine u_cmp rfl rfl rfl rfl rfl rfl rfl (fun h => ?_) (fun h => ?_) <;> (dsimp only [cmpP] at h; (try (exfalso; omega)))) | refine u_len rfl rfl rfl rfl rfl ?_) | (with_reducible first | refine u_seq ?_ | refine u_region ?_ | refine u_nil ?_ | refine u_then_n ?_ | refine u_ret ?_ | refine u_skip ?_ | refine u_exit ?_ | refine u_in_same ?_ | refine u_then_e ?_) | ((with_reducible refine u_cond_f ?_ ?_); (· exact rfl))))
    all_goals exact u_done (by (exact ResL.cons (by exact Res1.tmp rfl) ResL.nil)) () trivial rfl (fun _ h => h.sub (by (repeat (first | exact Out.nil _ | (refine Out.cons (by (repeat (first | exact Take.here _ _ | apply Take.there))) ?_)))))
def ordI (a b : List Int) : Int := if a.length = b.length then cmpL a b else (a.length : Int) - b.length
theorem ordI_bef (a b : List Int) : ordI a b < 0 ↔ befB a b = true := by
  unfold ordI befB
  split
  · exact cmpL_lex a b
  · simp; omega
theorem order_any (a : List Int) (A : Option Addr) (ca : Nat) (m : List Int) (B : Option Addr) (cb : Nat) (w : World) (ha : SlAt encI 1 w A a) (hm : SlAt encI 1 w B m) (h1 : a.length ≤ 1000) (h2 : m.length ≤ 1000) :
    Gv Tryd.prog 49 [.slice A a.length ca, .slice B m.length cb] w (.int .i64 (ordI a m)) := by
  have hcm := fun (hl : a.length = m.length) W (hb : Below w.heap.size w W) => compares_any a A ca m B cb W (ha.below hb) (hm.below hb) h1 hl
  unfold Gv ordI
  (refine ret_enter (n := 18) Tryd.func49 rfl rfl rfl ?_)
  by_cases hl : a.length = m.length
  · rw [if_pos hl]
    have hcm := hcm hl
    (repeat' (first | ((with_reducible refine isOps ?_); first | refine u_move rfl rfl rfl rfl rfl ?_ | refine u_assign rfl rfl rfl rfl rfl ?_ | (refine u_cmp rfl rfl rfl rfl rfl rfl rfl (fun h => ?_) (fun h => ?_) <;> (dsimp only [cmpP] at h; (try (exfalso; omega)))) | refine u_gives rfl rfl rfl rfl rfl rfl (fun _ _ q => hcm _ q.below) ?_ | refine u_len rfl rfl rfl rfl rfl ?_) | (with_reducible first | refine u_seq ?_ | refine u_region ?_ | refine u_nil ?_ | refine u_then_n ?_ | refine u_ret ?_ | refine u_skip ?_) | ((with_reducible refine u_cond_f ?_ ?_); (· exact rfl))))
    exact u_done (by (exact ResL.cons (by exact Res1.tmp rfl) ResL.nil)) () trivial rfl (fun _ h => h.sub (by (repeat (first | exact Out.nil _ | (refine Out.cons (by (repeat (first | exact Take.here _ _ | apply Take.there))) ?_)))))
  · rw [if_neg hl]
    (repeat' (first | ((with_reducible refine isOps ?_); first | refine u_move rfl rfl rfl rfl rfl ?_ | refine u_assign rfl rfl rfl rfl rfl ?_ | (refine u_cmp rfl rfl rfl rfl rfl rfl rfl (fun h => ?_) (fun h => ?_) <;> (dsimp only [cmpP] at h; (try (exfalso; omega)))) | refine u_sub rfl rfl rfl rfl rfl rfl (IntWalk.i64_in _ (by omega)) ?_ | refine u_len rfl rfl rfl rfl rfl ?_) | (with_reducible first | refine u_seq ?_ | refine u_region ?_ | refine u_nil ?_ | refine u_then_n ?_ | refine u_ret ?_ | refine u_then_r ?_) | ((with_reducible refine u_cond_t ?_ ?_); (· exact rfl))))
    exact u_done (by (exact ResL.cons (by exact Res1.tmp rfl) ResL.nil)) () trivial rfl (fun _ h => h.sub (by (repeat (first | exact Out.nil _ | (refine Out.cons (by (repeat (first | exact Take.here _ _ | apply Take.there))) ?_)))))
end Go.Proofs.YtdigopgncfhiaaaDoor
/- Ice: the first of sets. -/
namespace Go.Proofs.YtdigopgncfhiaaaDoor
open Go.RowKit
set_option linter.unusedSimpArgs false
set_option linter.unusedVariables false
set_option maxRecDepth 20000
def lessS (m x : SlOf Int) : SlOf Int := if befB x.xs m.xs = true then x else m
def minS : List (SlOf Int) → SlOf Int
  | [] => nilOf
  | s :: r => r.foldl lessS s
theorem minS_mem : ∀ (r : List (SlOf Int)) (s : SlOf Int), r.foldl lessS s = s ∨ r.foldl lessS s ∈ r
  | [], s => .inl rfl
  | x :: r, s => by
    simp only [List.foldl_cons]
    rcases minS_mem r (lessS s x) with h | h
    · rw [h]; unfold lessS; split
      · exact .inr List.mem_cons_self
      · exact .inl rfl
    · exact .inr (List.mem_cons_of_mem _ h)
set_option maxHeartbeats 2000000 in
theorem min_any (L : List (SlOf Int)) (A : Option Addr) (ca : Nat) (w : World) (hL : TabAt encI 1 w A L) (h0 : 0 < L.length) (hl : L.length ≤ 100000) (hb : ∀ s ∈ L, s.xs.length ≤ 1000) :
    Gv Tryd.prog 95 [.slice A L.length ca, .func (.func 49) #[] #[]] w (.slice (minS L).A (minS L).xs.length (minS L).c) := by
  have hLp := hL.p
  obtain ⟨b1, o1, rfl, _, _⟩ := hLp.at_ h0
  have : InS w b1 o1 encOf 1 L := ⟨hLp⟩
  obtain ⟨s0, hs0⟩ : ∃ s, L[0]? = some s := ⟨_, List.getElem?_eq_getElem h0⟩
  have : GetI L 0 s0 := ⟨hs0⟩
  have hmin : (L.drop 1).foldl lessS s0 = minS L := by
    cases L with
    | nil => cases h0
    | cons x r => cases hs0; rfl
  unfold Gv
  (refine ret_enter (n := 33) Tryd.func95 rfl rfl rfl ?_)
  (repeat' (first | ((with_reducible refine isOps ?_); first | refine u_move rfl rfl rfl rfl rfl ?_ | refine u_assign rfl rfl rfl rfl rfl ?_ | (refine x_load rfl rfl rfl rfl rfl ?_; refine ⟨_, rfl, ?_⟩) | (refine u_cmp rfl rfl rfl rfl rfl rfl rfl (fun h => ?_) (fun h => ?_) <;> (dsimp only [cmpP] at h; (try (exfalso; omega)))) | refine u_index rfl rfl rfl rfl rfl rfl rfl (by omega) ?_ | refine u_len rfl rfl rfl rfl rfl ?_) | (with_reducible first | refine u_seq ?_ | refine u_region ?_ | refine u_nil ?_ | refine u_then_n ?_ | refine u_skip ?_ | refine u_block ?_) | ((with_reducible refine u_cond_f ?_ ?_); (· exact rfl))))
  refine u_loopP (ι := Nat × SlOf Int) [0, 1] rfl (fun q => q.1 ≤ L.length ∧ q.2 ∈ L ∧ (L.drop q.1).foldl lessS q.2 = minS L) (fun q => [(6, .int .i64 (q.1 : Int)), (5, .slice q.2.A q.2.xs.length q.2.c)]) (fun _ => []) (fun q => L.length - q.1) (1, s0) ⟨h0, List.mem_of_getElem? hs0, hmin⟩ (by (first | exact fun _ _ h => lk_nil h | (repeat (first | exact (fun _ _ h => lk_nil h) | (refine lk_sub rfl ?_))))) (by (repeat (first | exact Out.nil _ | (refine Out.cons (by (repeat (first | exact Take.here _ _ | apply Take.there))) ?_)))) ?_
  rintro ⟨i, s⟩ ⟨hi, hs, hf⟩
  simp only at hi hs hf
  simp only [zipR, List.cons_append, List.nil_append]
  by_cases hlt : i < L.length
  · obtain ⟨x, hx⟩ : ∃ x, L[i]? = some x := ⟨_, List.getElem?_eq_getElem hlt⟩
    have : GetI L i x := ⟨hx⟩
    have hxL := List.mem_of_getElem? hx
    have hord := fun W (hb' : Below w.heap.size w W) => order_any x.xs x.A x.c s.xs s.A s.c W ((hL.rows x hxL).below hb') ((hL.rows s hs).below hb') (hb x hxL) (hb s hs)
    have hbf := ordI_bef x.xs s.xs
    rw [show L.drop i = x :: L.drop (i + 1) by rw [List.drop_eq_getElem_cons hlt]; rw [List.getElem?_eq_getElem hlt] at hx; cases hx; rfl, List.foldl_cons] at hf
    generalize ordI x.xs s.xs = z at *
    by_cases hz : z < 0
    · rw [show lessS s x = x by unfold lessS; rw [if_pos (hbf.1 hz)]] at hf
      (repeat' (first | ((with_reducible refine isOps ?_); first | refine u_move rfl rfl rfl rfl rfl ?_ | refine u_assign rfl rfl rfl rfl rfl ?_ | (refine x_load rfl rfl rfl rfl rfl ?_; refine ⟨_, rfl, ?_⟩) | (refine u_cmp rfl rfl rfl rfl rfl rfl rfl (fun h => ?_) (fun h => ?_) <;> (dsimp only [cmpP] at h; (try (exfalso; omega)))) | refine u_gives rfl rfl rfl rfl rfl rfl (fun _ _ q => hord _ q.below) ?_ | refine u_add1 rfl rfl rfl rfl rfl rfl (by omega) ?_ | refine u_index rfl rfl rfl rfl rfl rfl rfl (by omega) ?_ | refine u_len rfl rfl rfl rfl rfl ?_) | (with_reducible first | refine u_seq ?_ | refine u_region ?_ | refine u_nil ?_ | refine u_then_n ?_ | refine u_skip ?_ | refine u_block ?_ | refine u_in_n ?_) | ((with_reducible refine u_cond_t ?_ ?_); (· exact rfl))))
      all_goals exact u_again (ι := Nat × SlOf Int) (i + 1, x) (by exact ⟨by omega, hxL, hf⟩) (by simp only; omega) (by (first | exact fun _ _ h => lk_nil h | (repeat (first | exact (fun _ _ h => lk_nil h) | (refine lk_sub rfl ?_))))) (by (repeat (first | exact Out.nil _ | (refine Out.cons (by (repeat (first | exact Take.here _ _ | apply Take.there))) ?_))))
    · rw [show lessS s x = s by unfold lessS; rw [if_neg (fun e => hz (hbf.2 e))]] at hf
      (repeat' (first | ((with_reducible refine isOps ?_); first | refine u_move rfl rfl rfl rfl rfl ?_ | refine u_assign rfl rfl rfl rfl rfl ?_ | (refine x_load rfl rfl rfl rfl rfl ?_; refine ⟨_, rfl, ?_⟩) | (refine u_cmp rfl rfl rfl rfl rfl rfl rfl (fun h => ?_) (fun h => ?_) <;> (dsimp only [cmpP] at h; (try (exfalso; omega)))) | refine u_gives rfl rfl rfl rfl rfl rfl (fun _ _ q => hord _ q.below) ?_ | refine u_add1 rfl rfl rfl rfl rfl rfl (by omega) ?_ | refine u_index rfl rfl rfl rfl rfl rfl rfl (by omega) ?_ | refine u_len rfl rfl rfl rfl rfl ?_) | (with_reducible first | refine u_seq ?_ | refine u_region ?_ | refine u_nil ?_ | refine u_then_n ?_ | refine u_skip ?_ | refine u_block ?_ | refine u_in_n ?_) | ((with_reducible refine u_cond_t ?_ ?_); (· exact rfl)) | ((with_reducible refine u_cond_f ?_ ?_); (· exact rfl))))
      all_goals exact u_again (ι := Nat × SlOf Int) (i + 1, s) (by exact ⟨by omega, hs, hf⟩) (by simp only; omega) (by (first | exact fun _ _ h => lk_nil h | (repeat (first | exact (fun _ _ h => lk_nil h) | (refine lk_sub rfl ?_))))) (by (repeat (first | exact Out.nil _ | (refine Out.cons (by (repeat (first | exact Take.here _ _ | apply Take.there))) ?_))))
  · obtain rfl : i = L.length := by omega
    rw [List.drop_length, List.foldl_nil] at hf
    rw [← hf]
    (repeat' (first | ((with_reducible refine isOps ?_); first | refine u_move rfl rfl rfl rfl rfl ?_ | refine u_assign rfl rfl rfl rfl rfl ?_ | (refine u_cmp rfl rfl rfl rfl rfl rfl rfl (fun h => ?_) (fun h => ?_) <;> (dsimp only [cmpP] at h; (try (exfalso; omega)))) | refine u_len rfl rfl rfl rfl rfl ?_) | (with_reducible first | refine u_seq ?_ | refine u_region ?_ | refine u_nil ?_ | refine u_then_n ?_ | refine u_ret ?_ | refine u_exit ?_ | refine u_in_same ?_ | refine u_then_e ?_) | ((with_reducible refine u_cond_f ?_ ?_); (· exact rfl))))
    exact u_done (by (exact ResL.cons (by exact Res1.tmp rfl) ResL.nil)) () trivial rfl (fun _ h => h.sub (by (repeat (first | exact Out.nil _ | (refine Out.cons (by (repeat (first | exact Take.here _ _ | apply Take.there))) ?_)))))
theorem first_any (L : List (SlOf Int)) (A : Option Addr) (ca : Nat) (w : World) (hL : TabAt encI 1 w A L) (hl : L.length ≤ 100000) (hb : ∀ s ∈ L, s.xs.length ≤ 1000) :
    Gv Tryd.prog 48 [.slice A L.length ca, .func (.func 49) #[] #[]] w (.tuple #[.slice (minS L).A (minS L).xs.length (minS L).c, .bool (decide (0 < L.length))]) := by
  unfold Gv
  by_cases h0 : 0 < L.length
  · have hm := fun W (hb' : Below w.heap.size w W) => min_any L A ca W (hL.below hb') h0 hl hb
    rw [decide_eq_true h0]
    (refine ret_enter (n := 14) Tryd.func48 rfl rfl rfl ?_)
    (repeat' (first | ((with_reducible refine isOps ?_); first | refine u_move rfl rfl rfl rfl rfl ?_ | refine u_assign rfl rfl rfl rfl rfl ?_ | (refine u_cmp rfl rfl rfl rfl rfl rfl rfl (fun h => ?_) (fun h => ?_) <;> (dsimp only [cmpP] at h; (try (exfalso; omega)))) | refine u_gives rfl rfl rfl rfl rfl rfl (fun _ _ q => hm _ q.below) ?_ | refine u_len rfl rfl rfl rfl rfl ?_) | (with_reducible first | refine u_seq ?_ | refine u_region ?_ | refine u_nil ?_ | refine u_then_n ?_ | refine u_ret ?_ | refine u_skip ?_) | ((with_reducible refine u_cond_f ?_ ?_); (· exact rfl))))
    exact u_done (by (exact ResL.cons (by exact Res1.tmp rfl) (ResL.cons (by exact Res1.tmp rfl) ResL.nil))) () trivial rfl (fun _ h => h.sub (by (repeat (first | exact Out.nil _ | (refine Out.cons (by (repeat (first | exact Take.here _ _ | apply Take.there))) ?_)))))
  · obtain rfl : L = [] := List.eq_nil_of_length_eq_zero (by omega)
    rw [show minS [] = nilOf from rfl]
    (refine ret_enter (n := 14) Tryd.func48 rfl rfl rfl ?_)
    (repeat' (first | ((with_reducible refine isOps ?_); first | refine u_move rfl rfl rfl rfl rfl ?_ | refine u_assign rfl rfl rfl rfl rfl ?_ | (refine u_cmp rfl rfl rfl rfl rfl rfl rfl (fun h => ?_) (fun h => ?_) <;> (dsimp only [cmpP] at h; (try (exfalso; omega)))) | refine u_len rfl rfl rfl rfl rfl ?_) | (with_reducible first | refine u_seq ?_ | refine u_region ?_ | refine u_nil ?_ | refine u_then_n ?_ | refine u_ret ?_ | refine u_then_r ?_) | ((with_reducible refine u_cond_t ?_ ?_); (· exact rfl))))
    all_goals exact u_done (by (exact ResL.cons (by exact Res1.tmp rfl) (ResL.cons (by exact Res1.tmp rfl) ResL.nil))) () trivial rfl (fun _ h => h.sub (by (repeat (first | exact Out.nil _ | (refine Out.cons (by (repeat (first | exact Take.here _ _ | apply Take.there))) ?_)))))
end Go.Proofs.YtdigopgncfhiaaaDoor
/- Ice: hours that are short, in plain Lean; tables that grow. -/
namespace Go.Proofs.YtdigopgncfhiaaaDoor
variable {ro : Option Nat}
open Go.RowKit
set_option linter.unusedSimpArgs false
set_option linter.unusedVariables false
set_option maxRecDepth 20000
def lessX (m x : List Int) : List Int := if befB x m = true then x else m
/-- the first of sets -/
def minX : List (List Int) → Option (List Int)
  | [] => none
  | s :: r => some (r.foldl lessX s)
theorem minX_snoc (l : List (List Int)) (x : List Int) : minX (l ++ [x]) = some (match minX l with | none => x | some m => lessX m x) := by
  cases l with
  | nil => rfl
  | cons s r => simp [minX, List.foldl_append]
theorem foldS_xs : ∀ (r : List (SlOf Int)) (s : SlOf Int), (r.foldl lessS s).xs = (r.map (·.xs)).foldl lessX s.xs
  | [], s => rfl
  | x :: r, s => by
    simp only [List.foldl_cons, List.map_cons]
    rw [foldS_xs r]
    congr 1
    unfold lessS lessX; split <;> rfl
theorem minS_xs {L : List (SlOf Int)} (h : 0 < L.length) : minX (L.map (·.xs)) = some (minS L).xs := by
  cases L with
  | nil => cases h
  | cons s r => simp only [minS, List.map_cons, minX, foldS_xs]
theorem minS_in {L : List (SlOf Int)} (h : 0 < L.length) : minS L ∈ L := by
  cases L with
  | nil => cases h
  | cons s r =>
    rcases minS_mem r s with h | h
    · show r.foldl lessS s ∈ s :: r
      rw [h]; exact List.mem_cons_self
    · exact List.mem_cons_of_mem _ h
/-- whether a set of hours is short for an hour -/
def shortB (c : Cov) (h m : Nat) : Bool := decide (0 < shortI (needsL c) (mayL c) (handsL c) h m)
/-- the sets below k that are short for an hour -/
def setsX (c : Cov) (h k : Nat) : List (List Int) := ((List.range k).filter (shortB c h)).map fun m => setL m h
theorem setsX_yes {c : Cov} {h k : Nat} (hb : shortB c h k = true) : setsX c h (k + 1) = setsX c h k ++ [setL k h] := by
  simp [setsX, List.range_succ, List.filter_append, hb]
theorem setsX_no {c : Cov} {h k : Nat} (hb : shortB c h k = false) : setsX c h (k + 1) = setsX c h k := by
  simp [setsX, List.range_succ, List.filter_append, hb]
theorem setsX_len (c : Cov) (h k : Nat) : (setsX c h k).length ≤ k := by
  have := List.length_filter_le (shortB c h) (List.range k)
  simpa [setsX] using this
def shortF (c : Cov) : Nat → Nat → Int × List Int × Int
  | 0, _ => (0, [], 6)
  | n + 1, h => match minX (setsX c h (2 ^ h)) with
    | some l => ((h : Int), l, 0)
    | none => shortF c n (h + 1)
theorem shortF_some {c : Cov} {n h : Nat} {l : List Int} (e : minX (setsX c h (2 ^ h)) = some l) : shortF c (n + 1) h = ((h : Int), l, 0) := by simp [shortF, e]
theorem shortF_none {c : Cov} {n h : Nat} (e : minX (setsX c h (2 ^ h)) = none) : shortF c (n + 1) h = shortF c n (h + 1) := by simp [shortF, e]
def shortX (c : Cov) : Int × List Int × Int := if errI c = 0 then shortF c c.hours.length 0 else (0, [], errI c)
/-- needs up to an hour are all that counts for it -/
theorem lackF_congr {nd nd' : Nat → Int} {my sm : Nat → Bool} : ∀ k, (∀ h, h < k → nd h = nd' h) → Flow.lackF nd my sm k = Flow.lackF nd' my sm k
  | 0, _ => rfl
  | k + 1, h => by
    have ih := lackF_congr (nd := nd) (nd' := nd') (my := my) (sm := sm) k (fun i hi => h i (by omega))
    have hk := h k (by omega)
    simp only [Flow.lackF, ih, hk]
theorem handS_ext {hs : List Int} {m k : Nat} (hm : m < 2 ^ k) : ∀ d, handS hs m (k + d) = handS hs m k
  | 0 => rfl
  | d + 1 => by
    have e : handS hs m (k + d + 1) = handS hs m (k + d) + (if m.testBit (k + d) then hs.getD (k + d) 0 else 0) := Flow.sumL_range_succ _ _
    rw [← Nat.add_assoc, e, Nat.testBit_lt_two_pow (Nat.lt_of_lt_of_le hm (Nat.pow_le_pow_right (by omega) (by omega))), handS_ext hm d]
    simp
theorem sumL_congr {f g : Nat → Int} : ∀ k : Nat, (∀ i, i < k → f i = g i) → Flow.sumL (List.range k) f = Flow.sumL (List.range k) g
  | 0, _ => rfl
  | k + 1, h => by rw [Flow.sumL_range_succ, Flow.sumL_range_succ, sumL_congr k (fun i hi => h i (by omega)), h k (by omega)]
theorem shortR_cut {nds : List (List Int)} {mys : List (List Bool)} {hs : List Int} {h m nh : Nat} (hr : ∀ r ∈ nds, r.length = nh) (hh : h < nh) (hl : hs.length = nh) (hm : m < 2 ^ h) :
    shortR (nds.map fun r => r.take (h + 1)) mys hs m = shortI nds mys hs h m := by
  unfold shortR shortI
  rw [List.length_map]
  congr 1
  · refine sumL_congr _ fun i hi => ?_
    have e : (nds.map fun r => r.take (h + 1)).getD i [] = nds[i].take (h + 1) := by
      rw [Flow.getD_lt (by simpa using hi)]; simp
    have hri := hr nds[i] (List.getElem_mem hi)
    unfold lackO
    rw [e, Flow.getD_lt hi, List.length_take, hri, Nat.min_eq_left (by omega)]
    rw [lackF_congr (nd' := fun h => nds[i].getD h 0) (h + 1) (fun j hj => ?_)]
    rw [List.getD_eq_getElem?_getD, List.getD_eq_getElem?_getD, List.getElem?_take_of_lt hj]
  · rw [hl]
    have := handS_ext (hs := hs) hm (nh - h)
    rwa [show h + (nh - h) = nh by omega] at this
section
variable {P : Program} {w0 : World} {n : Nat} {d : List Deferred} {R : List (Nat × Value)} {H H' H1 H2 H3 : List Ent} {Q : Exit → Act → World → Prop} {X : Act → World → Prop} {ops : Array Oper} {rest : List Oper} {o : Oper} {t : Tmp} {x y : Operand} {v : Value}
/-- make([]T, 0, n) -/
theorem u_makeCap {α : Type} (enc : α → List Value) {k : Nat} {T1 e : TypeId} {i : TypeInfo} {z : Value} {n0 s : Nat} {g : Bool} (hop : o.op = .makeSlice T1 x y) [i1 : TyI P T1 (.slice e) s g] (hi : P.info? e = some i) (hz : i.zero = some z) (h1 : i.size = k) (hb : Nat.ble (i.bytes * 1000) 281474976710656 = true) (hw : want R ops o = some true) (hd : o.dst = some t) (ht : Nat.blt t n = true) (hx : evR R x = some (.int .i64 0)) (hy : evR R y = some (.int .i64 (n0 : Int))) (hn : n0 ≤ 1000)
    (h : ∀ b, U w0 n d ((t, .slice (some ⟨b, 0, none⟩) 0 n0) :: R) (.row enc k e (.slice (some ⟨b, 0, none⟩) 0 n0) ([] : List α) :: H) (wpL ro P ops Q rest)) : U w0 n d R H (wpL ro P ops Q (o :: rest)) :=
  u_op hw fun a w q K1 hK => by
    have hb' : i.bytes * n0 ≤ 281474976710656 := by
      have h9 := Nat.le_of_ble_eq_true hb
      have h8 : i.bytes * n0 ≤ i.bytes * 1000 := Nat.mul_le_mul_left _ hn
      omega
    obtain ⟨w', hr, ho, hg⟩ := run_make_own (P := P) w w.heap.size T1 e i z k i1.und hi hz h1 .i64 .i64 n0 hb' (by simp [maxLen]; omega) (Nat.le_refl _)
    have hlt := World.ownsRow.lt ho w.heap.size rfl
    unfold Oper.wp execOp; rw [hop]
    simp only [Sem.run_bind, q.ev hx, q.ev hy, hr, Result.andThen_ok, Sem.run_pure, Oper.upon_value, hd]
    refine hK _ _ (h w.heap.size _ _ ((q.call (E := [.row enc k e (.slice (some ⟨w.heap.size, 0, none⟩) 0 n0) ([] : List α)]) (below_grown (Below.refl _ _) hg (fun g h => by cases h) (Nat.le_refl _)) ⟨fun f hf => ?_, fun f hf b hb => ?_, by simp⟩).put ht))
    · simp only [List.mem_singleton] at hf
      subst hf
      obtain ⟨h3, h4⟩ := ho
      refine ⟨h3, ?_⟩
      rcases h4 with h4 | ⟨g, cap, cur, e1, _, h5⟩
      · exact .inl h4
      · exact .inr ⟨g, cap, cur, e1, Nat.zero_le _, h5⟩
    · simp only [List.mem_singleton] at hf; subst hf; cases hb
      exact hlt
/-- a list of entries with one more -/
theorem u_allSnoc {β : Type} {f : β → Ent} {L : List β} {s : β} (ht : Take H (f s) H1) (ht1 : Take H1 (.all (L.map f)) H2) (h : U w0 n d R (.all ((L ++ [s]).map f) :: H2) X) : U w0 n d R H X :=
  u_own (H' := .all ((L ++ [s]).map f) :: H2) (fun w h0 => by
    have h1 := (h0.take ht)
    have h2 := h1.take (Take.there _ ht1)
    have h3 : Own w0.heap.size w ((L.map f) ++ (f s :: H2)) := own_all.2 h2
    refine own_all.1 ?_
    rw [List.map_append, List.append_assoc]
    exact h3) h
theorem u_allNil {β : Type} (f : β → Ent) (h : U w0 n d R (.all (([] : List β).map f) :: H) X) : U w0 n d R H X :=
  u_own (H' := .all (([] : List β).map f) :: H) (fun w h0 => (own_all (L := [])).1 h0) h
/-- one of a list of entries -/
theorem own_allPick {β : Type} {f : β → Ent} {L : List β} {s : β} {base : Nat} {w : World} (hs : s ∈ L) (ht : Take H (.all (L.map f)) H1) (h : Own base w H) : Own base w (f s :: H1) := by
  obtain ⟨i, hi⟩ := List.getElem?_of_mem hs
  have h1 : Own base w (L.map f ++ H1) := own_all.2 (h.take ht)
  have hp : (L.map f ++ H1).Perm (f s :: ((L.eraseIdx i).map f ++ H1)) := List.Perm.append_right H1 ((erase_perm hi).map f)
  have h2 := h1.perm hp
  refine ⟨fun e he => ?_, fun e he => ?_, ?_⟩
  · refine h2.here e ?_
    rcases List.mem_cons.1 he with he | he
    · exact List.mem_cons.2 (.inl he)
    · exact List.mem_cons.2 (.inr (List.mem_append.2 (.inr he)))
  · refine h2.foot e ?_
    rcases List.mem_cons.1 he with he | he
    · exact List.mem_cons.2 (.inl he)
    · exact List.mem_cons.2 (.inr (List.mem_append.2 (.inr he)))
  · refine h2.apart.sublist (List.Sublist.cons_cons _ (List.sublist_append_right _ _))
/-- a table whose rows and their list are rows of one's own -/
theorem tab_rows {α : Type} {enc : α → List Value} {k e e2 m c base : Nat} [ei : EncI enc k] {A : Option Addr} {L : List (SlOf α)} {w : World} (h : Own base w H) (ht : Take H (.row encOf 1 e2 (.slice A m c) L) H1) (ht2 : Take H (.all (L.map (rowOf enc k e))) H2) : TabAt enc k w A L := by
  refine ⟨row_at h ht, fun s hs => ?_⟩
  have h1 : Own 0 w (L.map (rowOf enc k e)) := h.here _ ht2.mem
  exact (slAt_row ei.len (h1.here _ (List.mem_map_of_mem hs) : Row enc k e 0 w (.slice s.A s.xs.length s.c) s.xs)).2
/-- rows have room -/
theorem row_cap {α : Type} {enc : α → List Value} {k e base m c : Nat} {A : Option Addr} {xs : List α} {w : World} (h : Row enc k e base w (.slice A m c) xs) : xs.length ≤ c := by
  obtain ⟨_, h2⟩ := h
  rcases h2 with ⟨h1, h0⟩ | ⟨g, cap, cur, h1, _, _, hc, _⟩
  · rw [h0]; omega
  · cases h1; exact hc
theorem u_tabCaps {α : Type} {enc : α → List Value} {k e g : Nat} {L : List (SlOf α)} (ht : Take H (.tabG encOf (rowOf enc k e) g L) H1) (h : (∀ s ∈ L, s.xs.length ≤ s.c) → U w0 n d R H X) : U w0 n d R H X :=
  u_fact ht (p := ∀ s ∈ L, s.xs.length ≤ s.c) (fun w hp s hs => by
    have h1 : Own 0 w (.arr encOf 1 g L :: L.map (rowOf enc k e)) := hp
    exact row_cap (h1.here (rowOf enc k e s) (by simp; exact .inr ⟨s, hs, rfl⟩) : Row enc k e 0 w (.slice s.A s.xs.length s.c) s.xs)) h
end
end Go.Proofs.YtdigopgncfhiaaaDoor
