/- Ice: how thick ice has to be. -/
import Derived.Test.YtdigopgncfhiaaaDoorJ6
import Derived.Test.YtdigopgncfhiaaaDoorJ13
import Derived.Test.YtdigopgncfhiaaaDoorU7
namespace Go.Proofs.YtdigopgncfhiaaaDoor
variable {ro : Option Nat}
open Go.RowKit
set_option linter.unusedSimpArgs false
set_option linter.unusedVariables false
set_option maxRecDepth 20000

section
variable {P : Program} {w0 : World} {n : Nat} {d : List Deferred} {R : List (Nat × Value)} {H : List Ent} {o : Oper} {x y : Operand} {v u : Value} {T T' : TypeId} {k : IntKind} {i j : Int}
theorem run_partV {s off : Nat} {g : Bool} {td : TypeDesc} {vs : List Value} (i1 : TyI P T td s g) (hv : rdv g (vs.drop off) s = some v) (w : World) : (Go.part T vs.toArray off).run P w = .ok v w := by
  unfold Go.part
  simp only [Sem.run_bind, i1.agg, Result.andThen_ok]
  cases g
  · simp only [rdv, List.getElem?_drop, Nat.add_zero] at hv
    simp [hv]
  · unfold rdv at hv
    simp only at hv
    cases hb : Nat.ble s (vs.drop off).length with
    | false => rw [hb] at hv; cases hv
    | true =>
      rw [hb] at hv
      simp only [cond_true, Option.some.injEq] at hv
      simp only [if_true, Sem.run_bind, i1.siz, Result.andThen_ok, Sem.run_pure, ← hv]
      congr 2
      rw [List.extract_toArray]
      simp [List.extract_eq_take_drop]
theorem e_indexV {e : TypeId} {s s' m I : Nat} {g g' : Bool} {td : TypeDesc} {vs : List Value} (hop : o.op = .index T x y) [i1 : TyI P T (.array m e) s g] [i2 : TyI P e td s' g'] (hx : evR R x = some (.agg vs.toArray)) (hy : evR R y = some (.int k i)) (hI : i = (I : Int)) (hi : I < m) (hv : rdv g' (vs.drop (I * s')) s' = some v) : Ev P w0 n d R H o v :=
  (fun a w q => by
    subst hI
    unfold execOp; rw [hop]
    have e1 := run_underlying i1.und w
    have e2 := i2.siz w
    have e3 := run_partV i2 hv w
    have h0 : (0 : Int) ≤ I := by omega
    have h1 : (I : Int) < m := by omega
    simp [q.ev hx, q.ev hy, Instr.index, asIntOf, e1, e2, hi, e3])
theorem e_fieldV {s s' m : Nat} {fs : Array Field} {f : Field} {g g' : Bool} {td : TypeDesc} {vs : List Value} (hop : o.op = .field T x m) [i1 : TyI P T (.struct fs) s g] (hx : evR R x = some (.agg vs.toArray)) (hf : fs[m]? = some f) (i2 : TyI P f.type td s' g') (hv : rdv g' (vs.drop f.offset) s' = some v) : Ev P w0 n d R H o v :=
  (fun a w q => by
    unfold execOp; rw [hop]
    have e1 := run_underlying i1.und w
    have e3 := run_partV i2 hv w
    simp [q.ev hx, Instr.field, asAgg, e1, hf, e3])
end
/-- the table of limits -/
def limC : List Value := [.func (.func 164) #[] #[], .func (.func 165) #[] #[], .func (.func 166) #[] #[], .func (.func 167) #[] #[]]
theorem lim1_any (u : Hour) (w : World) : Gv Tryd.prog 164 [vHour u] w (.bool true) := by
  unfold Gv vHour
  (refine ret_enter (n := 3) Tryd.func164 rfl rfl rfl ?_)
  (repeat' (first | ((with_reducible refine isOps ?_); first | refine u_assign rfl rfl rfl rfl rfl ?_ | (refine u_box rfl rfl rfl rfl rfl rfl (fun b => ?_))) | (with_reducible first | refine u_seq ?_ | refine u_region ?_ | refine u_nil ?_ | refine u_then_n ?_ | refine u_ret ?_ | refine u_skip ?_ | refine u_then_r ?_ | refine u_end ?_)))
  all_goals exact u_done (by (exact ResL.cons (by exact Res1.tmp rfl) ResL.nil)) () trivial rfl (fun _ h => h.sub (by (repeat (first | exact Out.nil _ | (refine Out.cons (by (repeat (first | exact Take.here _ _ | apply Take.there))) ?_)))))
theorem lim3_any (u : Hour) (w : World) : Gv Tryd.prog 166 [vHour u] w (.bool (decide (0 < u.runs))) := by
  unfold Gv vHour
  (refine ret_enter (n := 6) Tryd.func166 rfl rfl rfl ?_)
  (repeat' (first | ((with_reducible refine isOps ?_); first | refine u_assign rfl rfl rfl rfl rfl ?_ | (refine x_load rfl rfl rfl rfl rfl ?_; refine ⟨_, rfl, ?_⟩) | refine u_field rfl rfl rfl rfl rfl ?_ | (refine u_cmp rfl rfl rfl rfl rfl rfl rfl (fun h => ?_) (fun h => ?_) <;> (dsimp only [cmpP] at h; (try (exfalso; omega)))) | (refine u_box rfl rfl rfl rfl rfl rfl (fun b => ?_))) | (with_reducible first | refine u_seq ?_ | refine u_region ?_ | refine u_nil ?_ | refine u_then_n ?_ | refine u_ret ?_ | refine u_skip ?_ | refine u_then_r ?_ | refine u_end ?_)))
  all_goals exact u_done (by (exact ResL.cons (by exact Res1.tmp rfl) ResL.nil)) () trivial (by simp [resV]; omega) (fun _ h => h.sub (by (repeat (first | exact Out.nil _ | (refine Out.cons (by (repeat (first | exact Take.here _ _ | apply Take.there))) ?_)))))
theorem lim2_any (c : Cov) (A : Option Addr) (ca : Nat) (B : Option Addr) (cb : Nat) (C : Option Addr) (cc : Nat) (w : World) : Gv Tryd.prog 165 [vCov c A ca B cb C cc] w (.int .i64 c.base) := by
  unfold Gv vCov cellsCov
  (refine ret_enter (n := 5) Tryd.func165 rfl rfl rfl ?_)
  (repeat' (first | ((with_reducible refine isOps ?_); first | refine u_assign rfl rfl rfl rfl rfl ?_ | (refine x_load rfl rfl rfl rfl rfl ?_; refine ⟨_, rfl, ?_⟩) | refine u_field rfl rfl rfl rfl rfl ?_ | (refine u_box rfl rfl rfl rfl rfl rfl (fun b => ?_))) | (with_reducible first | refine u_seq ?_ | refine u_region ?_ | refine u_nil ?_ | refine u_then_n ?_ | refine u_ret ?_ | refine u_skip ?_ | refine u_then_r ?_ | refine u_end ?_)))
  all_goals exact u_done (by (exact ResL.cons (by exact Res1.tmp rfl) ResL.nil)) () trivial rfl (fun _ h => h.sub (by (repeat (first | exact Out.nil _ | (refine Out.cons (by (repeat (first | exact Take.here _ _ | apply Take.there))) ?_)))))
theorem lim4_any (c : Cov) (A : Option Addr) (ca : Nat) (B : Option Addr) (cb : Nat) (C : Option Addr) (cc : Nat) (w : World) : Gv Tryd.prog 167 [vCov c A ca B cb C cc] w (.int .i64 c.limit) := by
  unfold Gv vCov cellsCov
  (refine ret_enter (n := 5) Tryd.func167 rfl rfl rfl ?_)
  (repeat' (first | ((with_reducible refine isOps ?_); first | refine u_assign rfl rfl rfl rfl rfl ?_ | (refine x_load rfl rfl rfl rfl rfl ?_; refine ⟨_, rfl, ?_⟩) | refine u_field rfl rfl rfl rfl rfl ?_ | (refine u_box rfl rfl rfl rfl rfl rfl (fun b => ?_))) | (with_reducible first | refine u_seq ?_ | refine u_region ?_ | refine u_nil ?_ | refine u_then_n ?_ | refine u_ret ?_ | refine u_skip ?_ | refine u_then_r ?_ | refine u_end ?_)))
  all_goals exact u_done (by (exact ResL.cons (by exact Res1.tmp rfl) ResL.nil)) () trivial rfl (fun _ h => h.sub (by (repeat (first | exact Out.nil _ | (refine Out.cons (by (repeat (first | exact Take.here _ _ | apply Take.there))) ?_)))))
set_option maxHeartbeats 1000000 in
theorem greatest1_any (a b : Int) (A : Option Addr) (c : Nat) (w : World) (h : SlAt encI 1 w A [b]) : Gv Tryd.prog 120 [.int .i64 a, .slice A 1 c] w (.int .i64 (max a b)) := by
  obtain ⟨bb, o, rfl, hblt, hc⟩ := h.at_ (i := 0) (by simp)
  have : InS w bb o encI 1 [b] := ⟨h⟩
  have : GetI [b] 0 b := ⟨rfl⟩
  unfold Gv
  (refine ret_enter (n := 18) Tryd.func120 rfl rfl rfl ?_)
  (repeat' (first | ((with_reducible refine isOps ?_); first | refine u_move rfl rfl rfl rfl rfl ?_ | refine u_assign rfl rfl rfl rfl rfl ?_ | (refine x_load rfl rfl rfl rfl rfl ?_; refine ⟨_, rfl, ?_⟩) | (refine u_cmp rfl rfl rfl rfl rfl rfl rfl (fun h => ?_) (fun h => ?_) <;> (dsimp only [cmpP] at h; (try (exfalso; omega)))) | refine u_add1 rfl rfl rfl rfl rfl rfl (by omega) ?_ | refine u_add rfl rfl rfl rfl rfl rfl (IntWalk.i64_in _ (by omega)) ?_ | refine u_index rfl rfl rfl rfl rfl rfl rfl (by omega) ?_ | refine u_indexA rfl rfl rfl rfl rfl rfl rfl (by first | decide | omega) ?_ | refine u_len rfl rfl rfl rfl rfl ?_ | refine u_max rfl rfl rfl rfl rfl rfl ?_) | (with_reducible first | refine u_seq ?_ | refine u_region ?_ | refine u_nil ?_ | refine u_then_n ?_ | refine u_ret ?_ | refine u_skip ?_ | refine u_then_r ?_ | refine u_end ?_ | refine u_block ?_ | refine u_exit ?_ | refine u_in_n ?_ | refine u_in_r ?_ | refine u_in_same ?_ | refine u_then_e ?_) | ((with_reducible refine u_in_other ?_ ?_); (· exact rfl)) | ((with_reducible refine u_cond_t ?_ ?_); (· exact rfl)) | ((with_reducible refine u_cond_f ?_ ?_); (· exact rfl))))
  refine u_loopP (ι := Nat) [7, 8] rfl (fun i => i ≤ 1) (fun i => [(9, .int .i64 (i : Int)), (0, .int .i64 (if i = 0 then a else max a b))]) (fun _ => []) (fun i => 1 - i) 0 (by omega) (by (first | exact fun _ _ h => lk_nil h | (repeat (first | exact (fun _ _ h => lk_nil h) | (refine lk_sub rfl ?_))))) (by (repeat (first | exact Out.nil _ | (refine Out.cons (by (repeat (first | exact Take.here _ _ | apply Take.there))) ?_)))) ?_
  rintro i hi
  simp only [zipR, List.cons_append, List.nil_append]
  by_cases h0 : i = 0
  · subst h0
    simp only [if_true]
    (repeat' (first | ((with_reducible refine isOps ?_); first | refine u_move rfl rfl rfl rfl rfl ?_ | refine u_assign rfl rfl rfl rfl rfl ?_ | (refine x_load rfl rfl rfl rfl rfl ?_; refine ⟨_, rfl, ?_⟩) | (refine u_cmp rfl rfl rfl rfl rfl rfl rfl (fun h => ?_) (fun h => ?_) <;> (dsimp only [cmpP] at h; (try (exfalso; omega)))) | refine u_add1 rfl rfl rfl rfl rfl rfl (by omega) ?_ | refine u_add rfl rfl rfl rfl rfl rfl (IntWalk.i64_in _ (by omega)) ?_ | refine u_index rfl rfl rfl rfl rfl rfl rfl (by omega) ?_ | refine u_indexA rfl rfl rfl rfl rfl rfl rfl (by first | decide | omega) ?_ | refine u_len rfl rfl rfl rfl rfl ?_ | refine u_max rfl rfl rfl rfl rfl rfl ?_) | (with_reducible first | refine u_seq ?_ | refine u_region ?_ | refine u_nil ?_ | refine u_then_n ?_ | refine u_ret ?_ | refine u_skip ?_ | refine u_then_r ?_ | refine u_end ?_ | refine u_block ?_ | refine u_exit ?_ | refine u_in_n ?_ | refine u_in_r ?_ | refine u_in_same ?_ | refine u_then_e ?_) | ((with_reducible refine u_in_other ?_ ?_); (· exact rfl)) | ((with_reducible refine u_cond_t ?_ ?_); (· exact rfl)) | ((with_reducible refine u_cond_f ?_ ?_); (· exact rfl))))
    exact u_again 1 (by omega) (by omega) (by (first | exact fun _ _ h => lk_nil h | (repeat (first | exact (fun _ _ h => lk_nil h) | (refine lk_sub rfl ?_))))) (by (repeat (first | exact Out.nil _ | (refine Out.cons (by (repeat (first | exact Take.here _ _ | apply Take.there))) ?_))))
  · obtain rfl : i = 1 := by omega
    simp only [Nat.one_ne_zero, if_false]
    (repeat' (first | ((with_reducible refine isOps ?_); first | refine u_move rfl rfl rfl rfl rfl ?_ | refine u_assign rfl rfl rfl rfl rfl ?_ | (refine x_load rfl rfl rfl rfl rfl ?_; refine ⟨_, rfl, ?_⟩) | (refine u_cmp rfl rfl rfl rfl rfl rfl rfl (fun h => ?_) (fun h => ?_) <;> (dsimp only [cmpP] at h; (try (exfalso; omega)))) | refine u_add1 rfl rfl rfl rfl rfl rfl (by omega) ?_ | refine u_add rfl rfl rfl rfl rfl rfl (IntWalk.i64_in _ (by omega)) ?_ | refine u_index rfl rfl rfl rfl rfl rfl rfl (by omega) ?_ | refine u_indexA rfl rfl rfl rfl rfl rfl rfl (by first | decide | omega) ?_ | refine u_len rfl rfl rfl rfl rfl ?_ | refine u_max rfl rfl rfl rfl rfl rfl ?_) | (with_reducible first | refine u_seq ?_ | refine u_region ?_ | refine u_nil ?_ | refine u_then_n ?_ | refine u_ret ?_ | refine u_skip ?_ | refine u_then_r ?_ | refine u_end ?_ | refine u_block ?_ | refine u_exit ?_ | refine u_in_n ?_ | refine u_in_r ?_ | refine u_in_same ?_ | refine u_then_e ?_) | ((with_reducible refine u_in_other ?_ ?_); (· exact rfl)) | ((with_reducible refine u_cond_t ?_ ?_); (· exact rfl)) | ((with_reducible refine u_cond_f ?_ ?_); (· exact rfl))))
    exact u_done (by (exact ResL.cons (by exact Res1.tmp rfl) ResL.nil)) () trivial rfl (fun _ h => h.sub (by (repeat (first | exact Out.nil _ | (refine Out.cons (by (repeat (first | exact Take.here _ _ | apply Take.there))) ?_)))))

def asksN (c : Cov) (u : Hour) : Nat → Int
  | 0 => 0
  | 1 => max 0 c.base
  | _ => if 0 < u.runs then max (max 0 c.base) c.limit else max 0 c.base
theorem asks_eq {c : Cov} {u : Hour} (hf : Fine c) : asksN c u 2 = asksC c u := by
  have h1 := hf.limit; have h2 := hf.base
  simp only [inB_iff] at h1 h2
  simp only [asksN, asksC]; split <;> omega
set_option maxHeartbeats 2000000 in
theorem iasks_any (c : Cov) (A : Option Addr) (ca : Nat) (B : Option Addr) (cb : Nat) (C : Option Addr) (cc g : Nat) (u : Hour) (w : World) (hr : InC w g 0 (cellsCov c A ca B cb C cc)) (hG : InC w 0 0 limC) (hf : Fine c) :
    Gv Tryd.prog 88 [.pointer (some ⟨g, 0, none⟩), vHour u] w (.int .i64 (asksC c u)) := by
  have k1 := fun W => lim1_any u W
  have k3 := fun W => lim3_any u W
  have k2 := fun W => lim2_any c A ca B cb C cc W
  have k4 := fun W => lim4_any c A ca B cb C cc W
  have hmax := fun (a b : Int) (A : Option Addr) (c : Nat) (w : World) (h : SlAt encI 1 w A [b]) => greatest1_any a b A c w h
  rw [← asks_eq hf]
  unfold vHour at k1 k3
  unfold vCov at k2 k4
  unfold cellsCov at hr k2 k4
  unfold limC at hG
  unfold Gv vHour
  (refine ret_enter (n := 28) Tryd.func88 rfl rfl rfl ?_)
  (repeat' (first | ((with_reducible refine isOps ?_); first | refine u_move rfl rfl rfl rfl rfl ?_ | refine u_assign rfl rfl rfl rfl rfl ?_ | (refine x_load rfl rfl rfl rfl rfl ?_; refine ⟨_, rfl, ?_⟩) | refine u_field rfl rfl rfl rfl rfl ?_ | (refine u_cmp rfl rfl rfl rfl rfl rfl rfl (fun h => ?_) (fun h => ?_) <;> (dsimp only [cmpP] at h; (try (exfalso; omega)))) | refine u_add1 rfl rfl rfl rfl rfl rfl (by omega) ?_ | refine u_add rfl rfl rfl rfl rfl rfl (IntWalk.i64_in _ (by omega)) ?_ | (refine x_store rfl rfl rfl rfl rfl ?_; refine And.intro rfl (And.intro (by first | decide | exact Nat.le_of_ble_eq_true rfl | (simp; omega)) ⟨_, rfl, ?_⟩)) | (refine u_alloc rfl rfl rfl rfl (fun b => ?_)) | (refine u_box rfl rfl rfl rfl rfl rfl (fun b => ?_)) | (refine x_buildSlice rfl rfl rfl rfl rfl ?_; refine ⟨rfl, _, rfl, fun b => ?_⟩) | refine u_nilCheck rfl rfl rfl rfl rfl ?_) | (with_reducible first | refine u_seq ?_ | refine u_region ?_ | refine u_nil ?_ | refine u_then_n ?_ | refine u_ret ?_ | refine u_skip ?_ | refine u_then_r ?_ | refine u_end ?_ | refine u_block ?_ | refine u_exit ?_ | refine u_in_n ?_ | refine u_in_r ?_ | refine u_in_same ?_ | refine u_then_e ?_) | ((with_reducible refine u_in_other ?_ ?_); (· exact rfl)) | ((with_reducible refine u_cond_t ?_ ?_); (· exact rfl)) | ((with_reducible refine u_cond_f ?_ ?_); (· exact rfl))))
  refine u_loopP (ι := Nat) [0, 3, 8] rfl (fun i => i ≤ 2) (fun i => [(9, .int .i64 (i : Int)), (5, .int .i64 (asksN c u i))]) (fun _ => [.blk b (encHour u)]) (fun i => 2 - i) 0 (by omega) (by (first | exact fun _ _ h => lk_nil h | (repeat (first | exact (fun _ _ h => lk_nil h) | (refine lk_sub rfl ?_))))) (by (repeat (first | exact Out.nil _ | (refine Out.cons (by (repeat (first | exact Take.here _ _ | apply Take.there))) ?_)))) ?_
  rintro i hi
  simp only [zipR, List.cons_append, List.nil_append]
  unfold encHour
  by_cases h0 : i = 0
  · subst h0
    (repeat' (first | ((with_reducible refine isOps ?_); first | refine u_move rfl rfl rfl rfl rfl ?_ | refine u_assign rfl rfl rfl rfl rfl ?_ | (refine x_load rfl rfl rfl rfl rfl ?_; refine ⟨_, rfl, ?_⟩) | refine u_field rfl rfl rfl rfl rfl ?_ | (refine u_cmp rfl rfl rfl rfl rfl rfl rfl (fun h => ?_) (fun h => ?_) <;> (dsimp only [cmpP] at h; (try (exfalso; omega)))) | refine u_val rfl rfl rfl (e_indexV (I := 0) rfl rfl rfl rfl (by decide) rfl) ?_ | refine u_gives rfl rfl rfl rfl rfl rfl (fun _ _ q => k1 _) ?_ | refine u_add1 rfl rfl rfl rfl rfl rfl (by omega) ?_ | refine u_add rfl rfl rfl rfl rfl rfl (IntWalk.i64_in _ (by omega)) ?_ | (refine x_store rfl rfl rfl rfl rfl ?_; refine And.intro rfl (And.intro (by first | decide | exact Nat.le_of_ble_eq_true rfl | (simp; omega)) ⟨_, rfl, ?_⟩)) | (refine u_alloc rfl rfl rfl rfl (fun b => ?_)) | (refine u_box rfl rfl rfl rfl rfl rfl (fun b => ?_)) | (refine x_buildSlice rfl rfl rfl rfl rfl ?_; refine ⟨rfl, _, rfl, fun b => ?_⟩) | refine u_nilCheck rfl rfl rfl rfl rfl ?_) | (with_reducible first | refine u_seq ?_ | refine u_region ?_ | refine u_nil ?_ | refine u_then_n ?_ | refine u_ret ?_ | refine u_skip ?_ | refine u_then_r ?_ | refine u_end ?_ | refine u_block ?_ | refine u_exit ?_ | refine u_in_n ?_ | refine u_in_r ?_ | refine u_in_same ?_ | refine u_then_e ?_) | ((with_reducible refine u_in_other ?_ ?_); (· exact rfl)) | ((with_reducible refine u_cond_t ?_ ?_); (· exact rfl)) | ((with_reducible refine u_cond_f ?_ ?_); (· exact rfl))))
    (refine u_chain (by kernel_rfl) [[], [false], [true, false], [false, false, false], [true, false, false, false], [true, true, false, false, false], [true, true, true, false, false, false], [true, true, true, true, true, true, false], [true, true, true, true, true, true, true, false], [true, true, true, true, true, true, true, true, true], [true, true, true, true, true, true, true, true, true, true]] (by kernel_rfl) (by kernel_rfl) (by kernel_rfl) ?_)
    (repeat' (first | (((with_reducible refine c_go ?_ ?_); (· exact rfl); refine ⟨_, fun G => (by (try simp only [fltT, entsT, List.nil_append, List.cons_append]); rfl), ?_⟩); first | refine c_val _ (fun _ => e_move rfl rfl) (fun _ => rfl) rfl (by first | exact fun _ _ _ => rfl | (intro G G' h; simp (decide := true) only [h])) ?_ | refine c_val _ (fun _ => e_load' rfl rfl (by exact rfl)) (fun _ => rfl) rfl (by first | exact fun _ _ _ => rfl | (intro G G' h; simp (decide := true) only [h])) ?_ | (refine c_isField rfl ?_; refine c_val _ (fun _ => e_field rfl rfl) (fun _ => rfl) rfl (by first | exact fun _ _ _ => rfl | (intro G G' h; simp (decide := true) only [h])) ?_) | refine c_val _ (fun _ => e_assign rfl rfl) (fun _ => rfl) rfl (by first | exact fun _ _ _ => rfl | (intro G G' h; simp (decide := true) only [h])) ?_ | refine c_gives _ rfl (fun _ => rfl) rfl (fun _ => rfl) (fun _ => rfl) (fun _ _ _ q => k2 _) (by first | exact fun _ _ _ => rfl | (intro G G' h; simp (decide := true) only [h])) ?_ | refine c_gives _ rfl (fun _ => rfl) rfl (fun _ => rfl) (fun _ => rfl) (fun _ _ _ q => hmax _ _ _ _ _ (src_one (enc := encI) (by exact rfl) _ q.below q.own)) (by first | exact fun _ _ _ => rfl | (intro G G' h; simp (decide := true) only [h])) ?_ | refine c_val _ (fun _ => e_nilCheck rfl rfl) (fun _ => rfl) rfl (by first | exact fun _ _ _ => rfl | (intro G G' h; simp (decide := true) only [h])) ?_ | refine c_buildSlice rfl (fun _ => rfl) rfl (fun _ => rfl) (by exact rfl) (by exact fun _ => rfl) (by first | exact fun _ _ _ => rfl | (intro G G' h; simp (decide := true) only [h])) ?_) | ((with_reducible refine c_tail ?_ ?_); (· exact rfl)) | (with_reducible refine c_nil ?_)))
    (intro G; simp only [regsT, entsT, Pend.at_none, List.nil_append, List.cons_append])
    (repeat' (first | ((with_reducible refine isOps ?_); first | refine u_move rfl rfl rfl rfl rfl ?_ | refine u_assign rfl rfl rfl rfl rfl ?_ | (refine x_load rfl rfl rfl rfl rfl ?_; refine ⟨_, rfl, ?_⟩) | refine u_field rfl rfl rfl rfl rfl ?_ | (refine u_cmp rfl rfl rfl rfl rfl rfl rfl (fun h => ?_) (fun h => ?_) <;> (dsimp only [cmpP] at h; (try (exfalso; omega)))) | refine u_add1 rfl rfl rfl rfl rfl rfl (by omega) ?_ | refine u_add rfl rfl rfl rfl rfl rfl (IntWalk.i64_in _ (by omega)) ?_ | (refine x_store rfl rfl rfl rfl rfl ?_; refine And.intro rfl (And.intro (by first | decide | exact Nat.le_of_ble_eq_true rfl | (simp; omega)) ⟨_, rfl, ?_⟩)) | (refine u_alloc rfl rfl rfl rfl (fun b => ?_)) | (refine u_box rfl rfl rfl rfl rfl rfl (fun b => ?_)) | (refine x_buildSlice rfl rfl rfl rfl rfl ?_; refine ⟨rfl, _, rfl, fun b => ?_⟩) | refine u_nilCheck rfl rfl rfl rfl rfl ?_) | (with_reducible first | refine u_seq ?_ | refine u_region ?_ | refine u_nil ?_ | refine u_then_n ?_ | refine u_ret ?_ | refine u_skip ?_ | refine u_then_r ?_ | refine u_end ?_ | refine u_block ?_ | refine u_exit ?_ | refine u_in_n ?_ | refine u_in_r ?_ | refine u_in_same ?_ | refine u_then_e ?_) | ((with_reducible refine u_in_other ?_ ?_); (· exact rfl)) | ((with_reducible refine u_cond_t ?_ ?_); (· exact rfl)) | ((with_reducible refine u_cond_f ?_ ?_); (· exact rfl))))
    exact u_again 1 (by omega) (by omega) (by (first | exact fun _ _ h => lk_nil h | (repeat (first | exact (fun _ _ h => lk_nil h) | (refine lk_sub rfl ?_))))) (by (repeat (first | exact Out.nil _ | (refine Out.cons (by (repeat (first | exact Take.here _ _ | apply Take.there))) ?_))))
  · by_cases h1 : i = 1
    · subst h1
      (repeat' (first | ((with_reducible refine isOps ?_); first | refine u_move rfl rfl rfl rfl rfl ?_ | refine u_assign rfl rfl rfl rfl rfl ?_ | (refine x_load rfl rfl rfl rfl rfl ?_; refine ⟨_, rfl, ?_⟩) | refine u_field rfl rfl rfl rfl rfl ?_ | (refine u_cmp rfl rfl rfl rfl rfl rfl rfl (fun h => ?_) (fun h => ?_) <;> (dsimp only [cmpP] at h; (try (exfalso; omega)))) | refine u_val rfl rfl rfl (e_indexV (I := 1) rfl rfl rfl rfl (by decide) rfl) ?_ | (refine u_givesB rfl rfl rfl rfl rfl rfl (fun _ _ q => k3 _) (fun h => ?_) (fun h => ?_)) | refine u_add1 rfl rfl rfl rfl rfl rfl (by omega) ?_ | refine u_add rfl rfl rfl rfl rfl rfl (IntWalk.i64_in _ (by omega)) ?_ | (refine x_store rfl rfl rfl rfl rfl ?_; refine And.intro rfl (And.intro (by first | decide | exact Nat.le_of_ble_eq_true rfl | (simp; omega)) ⟨_, rfl, ?_⟩)) | (refine u_alloc rfl rfl rfl rfl (fun b => ?_)) | (refine u_box rfl rfl rfl rfl rfl rfl (fun b => ?_)) | (refine x_buildSlice rfl rfl rfl rfl rfl ?_; refine ⟨rfl, _, rfl, fun b => ?_⟩) | refine u_nilCheck rfl rfl rfl rfl rfl ?_) | (with_reducible first | refine u_seq ?_ | refine u_region ?_ | refine u_nil ?_ | refine u_then_n ?_ | refine u_ret ?_ | refine u_skip ?_ | refine u_then_r ?_ | refine u_end ?_ | refine u_block ?_ | refine u_exit ?_ | refine u_in_n ?_ | refine u_in_r ?_ | refine u_in_same ?_ | refine u_then_e ?_) | ((with_reducible refine u_in_other ?_ ?_); (· exact rfl)) | ((with_reducible refine u_cond_t ?_ ?_); (· exact rfl)) | ((with_reducible refine u_cond_f ?_ ?_); (· exact rfl))))
      · (refine u_chain (by kernel_rfl) [[], [false], [true, false], [false, false, false], [true, false, false, false], [true, true, false, false, false], [true, true, true, false, false, false], [true, true, true, true, true, true, false], [true, true, true, true, true, true, true, false], [true, true, true, true, true, true, true, true, true], [true, true, true, true, true, true, true, true, true, true]] (by kernel_rfl) (by kernel_rfl) (by kernel_rfl) ?_)
        (repeat' (first | (((with_reducible refine c_go ?_ ?_); (· exact rfl); refine ⟨_, fun G => (by (try simp only [fltT, entsT, List.nil_append, List.cons_append]); rfl), ?_⟩); first | refine c_val _ (fun _ => e_move rfl rfl) (fun _ => rfl) rfl (by first | exact fun _ _ _ => rfl | (intro G G' h; simp (decide := true) only [h])) ?_ | refine c_val _ (fun _ => e_load' rfl rfl (by exact rfl)) (fun _ => rfl) rfl (by first | exact fun _ _ _ => rfl | (intro G G' h; simp (decide := true) only [h])) ?_ | (refine c_isField rfl ?_; refine c_val _ (fun _ => e_field rfl rfl) (fun _ => rfl) rfl (by first | exact fun _ _ _ => rfl | (intro G G' h; simp (decide := true) only [h])) ?_) | refine c_val _ (fun _ => e_assign rfl rfl) (fun _ => rfl) rfl (by first | exact fun _ _ _ => rfl | (intro G G' h; simp (decide := true) only [h])) ?_ | refine c_gives _ rfl (fun _ => rfl) rfl (fun _ => rfl) (fun _ => rfl) (fun _ _ _ q => k4 _) (by first | exact fun _ _ _ => rfl | (intro G G' h; simp (decide := true) only [h])) ?_ | refine c_gives _ rfl (fun _ => rfl) rfl (fun _ => rfl) (fun _ => rfl) (fun _ _ _ q => hmax _ _ _ _ _ (src_one (enc := encI) (by exact rfl) _ q.below q.own)) (by first | exact fun _ _ _ => rfl | (intro G G' h; simp (decide := true) only [h])) ?_ | refine c_val _ (fun _ => e_nilCheck rfl rfl) (fun _ => rfl) rfl (by first | exact fun _ _ _ => rfl | (intro G G' h; simp (decide := true) only [h])) ?_ | refine c_buildSlice rfl (fun _ => rfl) rfl (fun _ => rfl) (by exact rfl) (by exact fun _ => rfl) (by first | exact fun _ _ _ => rfl | (intro G G' h; simp (decide := true) only [h])) ?_) | ((with_reducible refine c_tail ?_ ?_); (· exact rfl)) | (with_reducible refine c_nil ?_)))
        (intro G; simp only [regsT, entsT, Pend.at_none, List.nil_append, List.cons_append])
        (repeat' (first | ((with_reducible refine isOps ?_); first | refine u_move rfl rfl rfl rfl rfl ?_ | refine u_assign rfl rfl rfl rfl rfl ?_ | (refine x_load rfl rfl rfl rfl rfl ?_; refine ⟨_, rfl, ?_⟩) | refine u_field rfl rfl rfl rfl rfl ?_ | (refine u_cmp rfl rfl rfl rfl rfl rfl rfl (fun h => ?_) (fun h => ?_) <;> (dsimp only [cmpP] at h; (try (exfalso; omega)))) | refine u_add1 rfl rfl rfl rfl rfl rfl (by omega) ?_ | refine u_add rfl rfl rfl rfl rfl rfl (IntWalk.i64_in _ (by omega)) ?_ | (refine x_store rfl rfl rfl rfl rfl ?_; refine And.intro rfl (And.intro (by first | decide | exact Nat.le_of_ble_eq_true rfl | (simp; omega)) ⟨_, rfl, ?_⟩)) | (refine u_alloc rfl rfl rfl rfl (fun b => ?_)) | (refine u_box rfl rfl rfl rfl rfl rfl (fun b => ?_)) | (refine x_buildSlice rfl rfl rfl rfl rfl ?_; refine ⟨rfl, _, rfl, fun b => ?_⟩) | refine u_nilCheck rfl rfl rfl rfl rfl ?_) | (with_reducible first | refine u_seq ?_ | refine u_region ?_ | refine u_nil ?_ | refine u_then_n ?_ | refine u_ret ?_ | refine u_skip ?_ | refine u_then_r ?_ | refine u_end ?_ | refine u_block ?_ | refine u_exit ?_ | refine u_in_n ?_ | refine u_in_r ?_ | refine u_in_same ?_ | refine u_then_e ?_) | ((with_reducible refine u_in_other ?_ ?_); (· exact rfl)) | ((with_reducible refine u_cond_t ?_ ?_); (· exact rfl)) | ((with_reducible refine u_cond_f ?_ ?_); (· exact rfl))))
        have e : asksN c u 2 = max (asksN c u 1) c.limit := by simp only [decide_eq_true_eq] at h; simp only [asksN, if_pos h]
        exact u_again 2 (by omega) (by omega) (by rw [e]; (first | exact fun _ _ h => lk_nil h | (repeat (first | exact (fun _ _ h => lk_nil h) | (refine lk_sub rfl ?_))))) (by (repeat (first | exact Out.nil _ | (refine Out.cons (by (repeat (first | exact Take.here _ _ | apply Take.there))) ?_))))
      · have e : asksN c u 2 = asksN c u 1 := by simp only [decide_eq_false_iff_not] at h; simp only [asksN, if_neg h]
        exact u_again 2 (by omega) (by omega) (by rw [e]; (first | exact fun _ _ h => lk_nil h | (repeat (first | exact (fun _ _ h => lk_nil h) | (refine lk_sub rfl ?_))))) (by (repeat (first | exact Out.nil _ | (refine Out.cons (by (repeat (first | exact Take.here _ _ | apply Take.there))) ?_))))
    · obtain rfl : i = 2 := by omega
      (repeat' (first | ((with_reducible refine isOps ?_); first | refine u_move rfl rfl rfl rfl rfl ?_ | refine u_assign rfl rfl rfl rfl rfl ?_ | (refine x_load rfl rfl rfl rfl rfl ?_; refine ⟨_, rfl, ?_⟩) | refine u_field rfl rfl rfl rfl rfl ?_ | (refine u_cmp rfl rfl rfl rfl rfl rfl rfl (fun h => ?_) (fun h => ?_) <;> (dsimp only [cmpP] at h; (try (exfalso; omega)))) | refine u_add1 rfl rfl rfl rfl rfl rfl (by omega) ?_ | refine u_add rfl rfl rfl rfl rfl rfl (IntWalk.i64_in _ (by omega)) ?_ | (refine x_store rfl rfl rfl rfl rfl ?_; refine And.intro rfl (And.intro (by first | decide | exact Nat.le_of_ble_eq_true rfl | (simp; omega)) ⟨_, rfl, ?_⟩)) | (refine u_alloc rfl rfl rfl rfl (fun b => ?_)) | (refine u_box rfl rfl rfl rfl rfl rfl (fun b => ?_)) | (refine x_buildSlice rfl rfl rfl rfl rfl ?_; refine ⟨rfl, _, rfl, fun b => ?_⟩) | refine u_nilCheck rfl rfl rfl rfl rfl ?_) | (with_reducible first | refine u_seq ?_ | refine u_region ?_ | refine u_nil ?_ | refine u_then_n ?_ | refine u_ret ?_ | refine u_skip ?_ | refine u_then_r ?_ | refine u_end ?_ | refine u_block ?_ | refine u_exit ?_ | refine u_in_n ?_ | refine u_in_r ?_ | refine u_in_same ?_ | refine u_then_e ?_) | ((with_reducible refine u_in_other ?_ ?_); (· exact rfl)) | ((with_reducible refine u_cond_t ?_ ?_); (· exact rfl)) | ((with_reducible refine u_cond_f ?_ ?_); (· exact rfl))))
      exact u_done (by (exact ResL.cons (by exact Res1.tmp rfl) ResL.nil)) () trivial rfl (fun _ h => h.sub (by (repeat (first | exact Out.nil _ | (refine Out.cons (by (repeat (first | exact Take.here _ _ | apply Take.there))) ?_)))))
theorem rasks2_any (c : Cov) (A : Option Addr) (ca : Nat) (B : Option Addr) (cb : Nat) (C : Option Addr) (cc j : Nat) (u : Hour) (w : World) (h : CovAt w c A B C) (hs : Small c) (hu : c.hours[j]? = some u) :
    Gv Tryd.prog 76 [vCov c A ca B cb C cc, .int .i64 (j : Int)] w (.int .i64 (asksC c u)) := by
  have h5 := hs.h
  have hh := h.h
  have hj := (List.getElem?_eq_some_iff.1 hu).1
  obtain ⟨bc, oc, rfl, hblt2, hc2⟩ := hh.at_ hj
  have : InS w bc oc encHour 5 c.hours := ⟨hh⟩
  have : GetI c.hours j u := ⟨hu⟩
  unfold Gv vCov cellsCov
  (refine ret_enter (n := 16) Tryd.func76 rfl rfl rfl ?_)
  (repeat' (first | ((with_reducible refine isOps ?_); first | refine u_move rfl rfl rfl rfl rfl ?_ | refine u_assign rfl rfl rfl rfl rfl ?_ | (refine x_load rfl rfl rfl rfl rfl ?_; refine ⟨_, rfl, ?_⟩) | refine u_field rfl rfl rfl rfl rfl ?_ | (refine u_cmp rfl rfl rfl rfl rfl rfl rfl (fun h => ?_) (fun h => ?_) <;> (dsimp only [cmpP] at h; (try (exfalso; omega)))) | refine u_index (I := j) rfl rfl rfl rfl rfl rfl rfl (by omega) ?_ | refine u_index rfl rfl rfl rfl rfl rfl rfl (by omega) ?_ | refine u_indexA rfl rfl rfl rfl rfl rfl rfl (by first | decide | omega) ?_ | (refine u_box rfl rfl rfl rfl rfl rfl (fun b => ?_))) | (with_reducible first | refine u_seq ?_ | refine u_region ?_ | refine u_nil ?_ | refine u_then_n ?_ | refine u_ret ?_ | refine u_skip ?_ | refine u_then_r ?_ | refine u_end ?_) | ((with_reducible refine u_cond_t ?_ ?_); (· exact rfl)) | ((with_reducible refine u_cond_f ?_ ?_); (· exact rfl))))
  all_goals exact u_done (by (exact ResL.cons (by exact Res1.tmp rfl) ResL.nil)) () trivial (by unfold asksC; first | (rw [if_pos (by omega)]; rfl) | (rw [if_neg (by omega)]; rfl)) (fun _ h => h.sub (by (repeat (first | exact Out.nil _ | (refine Out.cons (by (repeat (first | exact Take.here _ _ | apply Take.there))) ?_)))))
end Go.Proofs.YtdigopgncfhiaaaDoor
