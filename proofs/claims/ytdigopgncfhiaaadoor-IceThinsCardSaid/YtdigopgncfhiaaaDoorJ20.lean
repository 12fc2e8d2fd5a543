/- Ice: the law of thicknesses. -/
import Derived.Test.YtdigopgncfhiaaaDoorJ19
import Derived.Test.YtdigopgncfhiaaaDoorJ9
namespace Go.Proofs.YtdigopgncfhiaaaDoor
open Go.RowKit
set_option linter.unusedSimpArgs false
set_option linter.unusedVariables false
set_option maxRecDepth 20000
section
variable {w0 : World} {n : Nat} {d : List Deferred} {R : List (Nat × Value)} {H : List Ent} {o : Oper} {x y : Operand}
theorem e_eqSp {a b : Int} {T' : TypeId} (hop : o.op = .binOp .eql 28 x y T') (hx : evR R x = some (.agg #[.int .i64 a, .int .i64 b])) (hy : evR R y = some (.agg #[.int .i64 a, .int .i64 b])) : Ev Tryd.prog w0 n d R H o (.bool true) := fun k w q => by
  have e := run_eql_sp a b a b w
  rw [show eqSp ⟨a, b⟩ ⟨a, b⟩ = true from eqSp_iff.2 ⟨rfl, rfl⟩] at e
  have g := gd_sp .eql x y #[.int .i64 a, .int .i64 b] #[.int .i64 a, .int .i64 b] w
  unfold execOp; rw [hop]
  simp only [Sem.run_bind, q.ev hx, q.ev hy, g, Result.andThen_ok, e, Sem.run_pure]
end
set_option maxHeartbeats 4000000 in
theorem iceThicks_any (c : Cov) (A : Option Addr) (ca : Nat) (B : Option Addr) (cb : Nat) (C : Option Addr) (cc : Nat) (pl : List Sli) (P : Option Addr) (cp : Nat) (i h : Int) (w : World) (hc : CovAt w c A B C) (hfit : FitT c.t) (hp : PlanAt w P pl) (hcap : pl.length ≤ cp ∧ cp ≤ maxLen) (hG : InC w 0 0 limC) :
    Gv Tryd.prog 4 [vCov c A ca B cb C cc, .slice P pl.length cp, .int .i64 i, .int .i64 h] w (.bool true) := by
  have hGr := fun W (hW : Below w.heap.size w W) => rGreat2_any c A ca B cb C cc pl P cp W (hp.below hW) hcap
  unfold vCov at hGr
  unfold Gv vCov
  cases hgr : greatI c pl
  · rw [hgr] at hGr
    obtain ⟨h1, h2, h3, h4, h5⟩ := greatI_no hgr
    have hs : Small c := ⟨hfit, h1, h2, h3⟩
    have hTw := fun W (hW : Below w.heap.size w W) => twin2_any c A ca B cb C cc W (hc.below hW) (by omega) (by omega) (by omega)
    have hTp := fun W (hW : Below w.heap.size w W) => twinPlan_any pl P cp W (hp.below hW) h4 h5
    unfold vCov at hTw
    unfold cellsCov at hTw hGr ⊢
    (refine ret_enter (n := 119) Tryd.func4 rfl rfl rfl ?_)
    (repeat' (first | ((with_reducible refine isOps ?_); first | refine u_move rfl rfl rfl rfl rfl ?_ | refine u_assign rfl rfl rfl rfl rfl ?_ | (refine x_load rfl rfl rfl rfl rfl ?_; refine ⟨_, rfl, ?_⟩) | refine u_pick rfl rfl rfl rfl rfl rfl ?_ | refine u_not_wanted rfl rfl rfl ?_ | refine u_not_wanted0 rfl rfl ?_ | (refine u_cmp rfl rfl rfl rfl rfl rfl rfl (fun h => ?_) (fun h => ?_) <;> (dsimp only [cmpP] at h; (try (exfalso; omega)))) | refine u_gives rfl rfl rfl rfl rfl rfl (fun _ _ q => hGr _ q.below) ?_ | (refine u_call rfl rfl rfl rfl rfl rfl (fun _ _ q => hTw _ q.below) ?_; rintro ⟨⟨A1, ca1⟩, ⟨B1, cb1⟩, ⟨C1, cc1⟩⟩ -; dsimp only [List.cons_append, List.nil_append]) | (refine u_call rfl rfl rfl rfl rfl rfl (fun _ _ q => hTp _ q.below) ?_; rintro ⟨⟨P1, cp1⟩, pl1⟩ hx; dsimp only [List.cons_append, List.nil_append] at hx ⊢) | refine u_extract rfl rfl rfl rfl rfl rfl ?_ | (refine x_store rfl rfl rfl rfl rfl ?_; refine And.intro rfl (And.intro (by first | decide | exact Nat.le_of_ble_eq_true rfl | (simp; omega)) ⟨_, rfl, ?_⟩)) | (refine u_alloc rfl rfl rfl rfl (fun b => ?_)) | (refine u_box rfl rfl rfl rfl rfl rfl (fun b => ?_))) | (with_reducible first | refine u_seq ?_ | refine u_region ?_ | refine u_nil ?_ | refine u_then_n ?_ | refine u_ret ?_ | refine u_skip ?_ | refine u_then_r ?_ | refine u_end ?_) | ((with_reducible refine u_cond_t ?_ ?_); (· exact rfl)) | ((with_reducible refine u_cond_f ?_ ?_); (· exact rfl))))
    have hl1 : pl1.length = pl.length := by have := congrArg List.length hx; simpa using this
    have h51 : ∀ s ∈ pl1, s.xs.length ≤ 20 := fun s hs' => by
      obtain ⟨j, hj⟩ := List.mem_iff_getElem?.1 hs'
      have hjl := (List.getElem?_eq_some_iff.1 hj).1
      have := getD_xs hx j
      rw [getD_of hj] at this
      rw [this, List.getD_eq_getElem?_getD, List.getElem?_eq_getElem (show j < pl.length by omega)]
      exact h5 _ (List.getElem_mem _)
    have hL1 := fun W (hC : CovAt W c A1 B1 C1) => iLoss_any c A1 ca1 B1 cb1 C1 cc1 i h W hC hs
    have hL2 := fun W (hW : Below w.heap.size w W) => rLoss2_any c A ca B cb C cc i h W (hc.below hW) hs
    have hT1 := fun W (hC : CovAt W c A1 B1 C1) (hP : PlanAt W P1 pl1) => iThick_any c A1 ca1 B1 cb1 C1 cc1 pl1 P1 cp1 i h W hC hs hP (by omega) h51
    have hT2 := fun W (hW : Below w.heap.size w W) => rThick2_any c A ca B cb C cc pl P cp i h W (hc.below hW) hs (hp.below hW) h4 h5
    have hM1 := fun W (hC : CovAt W c A1 B1 C1) (hP : PlanAt W P1 pl1) (hG : InC W 0 0 limC) => iMost_any c A1 ca1 B1 cb1 C1 cc1 pl1 P1 cp1 h W hC hs hP (by omega) h51 hG
    have hM2 := fun W (hW : Below w.heap.size w W) => rMost2_any c A ca B cb C cc pl P cp h W (hc.below hW) hs (hp.below hW) h4 h5
    have hC1 := fun W (hC : CovAt W c A1 B1 C1) => icheck_any c A1 ca1 B1 cb1 C1 cc1 W hC hs
    have hC2 := fun W (hW : Below w.heap.size w W) => rcheck2_any c A ca B cb C cc W (hc.below hW) hs
    have hS1 := fun W (hC : CovAt W c A1 B1 C1) (hW : Below w.heap.size w W) => same2_yes c A1 ca1 B1 cb1 C1 cc1 A ca B cb C cc W hC (hc.below hW) hs
    have hS2 := fun W (hP : PlanAt W P1 pl1) (hW : Below w.heap.size w W) => sameLists_yes pl1 pl P1 cp1 P cp W hP (hp.below hW) hx (by omega) (fun s hs => by have := h5 s hs; omega)
    simp only [thickT_congr hx, mostT_congr hx, hl1] at hT1 hM1 hS2
    unfold vCov at hL1 hL2 hT1 hT2 hM1 hM2 hC1 hC2 hS1
    unfold cellsCov at hL1 hL2 hT1 hT2 hM1 hM2 hC1 hC2 hS1
    unfold vSp at hL1 hL2 hT1 hT2
    (repeat' (first | ((with_reducible refine isOps ?_); first | refine u_move rfl rfl rfl rfl rfl ?_ | refine u_assign rfl rfl rfl rfl rfl ?_ | (refine x_load rfl rfl rfl rfl rfl ?_; refine ⟨_, rfl, ?_⟩) | refine u_pick rfl rfl rfl rfl rfl rfl ?_ | refine u_not_wanted rfl rfl rfl ?_ | refine u_not_wanted0 rfl rfl ?_ | (refine u_cmp rfl rfl rfl rfl rfl rfl rfl (fun h => ?_) (fun h => ?_) <;> (dsimp only [cmpP] at h; (try (exfalso; omega)))) | refine u_gives rfl rfl rfl rfl rfl rfl (fun _ _ q => hL1 _ ⟨(sl_at q.own (Below.refl _ _)), (sl_at q.own (Below.refl _ _)), (sl_at q.own (Below.refl _ _))⟩) ?_ | refine u_gives rfl rfl rfl rfl rfl rfl (fun _ _ q => hL2 _ q.below) ?_ | refine u_gives rfl rfl rfl rfl rfl rfl (fun _ _ q => hT1 _ ⟨(sl_at q.own (Below.refl _ _)), (sl_at q.own (Below.refl _ _)), (sl_at q.own (Below.refl _ _))⟩ ⟨(sl_at q.own (Below.refl _ _)), q.own.here (.rows pl1) (Take.mem (by (repeat (first | exact Take.here _ _ | apply Take.there))))⟩) ?_ | refine u_gives rfl rfl rfl rfl rfl rfl (fun _ _ q => hT2 _ q.below) ?_ | refine u_gives rfl rfl rfl rfl rfl rfl (fun _ _ q => hM1 _ ⟨(sl_at q.own (Below.refl _ _)), (sl_at q.own (Below.refl _ _)), (sl_at q.own (Below.refl _ _))⟩ ⟨(sl_at q.own (Below.refl _ _)), q.own.here (.rows pl1) (Take.mem (by (repeat (first | exact Take.here _ _ | apply Take.there))))⟩ (hG.below q.below)) ?_ | refine u_gives rfl rfl rfl rfl rfl rfl (fun _ _ q => hM2 _ q.below) ?_ | refine u_extract rfl rfl rfl rfl rfl rfl ?_ | (refine x_store rfl rfl rfl rfl rfl ?_; refine And.intro rfl (And.intro (by first | decide | exact Nat.le_of_ble_eq_true rfl | (simp; omega)) ⟨_, rfl, ?_⟩)) | (refine u_alloc rfl rfl rfl rfl (fun b => ?_)) | (refine u_box rfl rfl rfl rfl rfl rfl (fun b => ?_))) | (with_reducible first | refine u_seq ?_ | refine u_region ?_ | refine u_nil ?_ | refine u_then_n ?_ | refine u_ret ?_ | refine u_skip ?_ | refine u_then_r ?_ | refine u_end ?_) | ((with_reducible refine u_cond_t ?_ ?_); (· exact rfl)) | ((with_reducible refine u_cond_f ?_ ?_); (· exact rfl))))
    (refine u_quiet (by kernel_rfl) (by kernel_rfl) (by kernel_rfl) ?_)
    (repeat' (first | ((with_reducible refine isOpsQ ?_); first | refine q_val (e_move rfl rfl) rfl rfl rfl ?_ | refine q_val (e_load' rfl rfl (by exact rfl)) rfl rfl rfl ?_ | refine q_val (e_field rfl rfl) rfl rfl rfl ?_ | refine q_val (e_pick rfl rfl rfl) rfl rfl rfl ?_ | refine q_val (e_assign rfl rfl) rfl rfl rfl ?_ | refine q_not_wanted rfl rfl rfl ?_ | (refine q_cmp rfl rfl rfl rfl rfl rfl rfl (fun h => ?_) (fun h => ?_) <;> (dsimp only [cmpP] at h; (try (exfalso; omega)))) | refine q_gives rfl rfl rfl rfl rfl rfl (fun _ _ q => hC1 _ ⟨(sl_at q.own (Below.refl _ _)), (sl_at q.own (Below.refl _ _)), (sl_at q.own (Below.refl _ _))⟩) ?_ | refine q_gives rfl rfl rfl rfl rfl rfl (fun _ _ q => hC2 _ q.below) ?_ | refine q_gives rfl rfl rfl rfl rfl rfl (fun _ _ q => hS1 _ ⟨(sl_at q.own (Below.refl _ _)), (sl_at q.own (Below.refl _ _)), (sl_at q.own (Below.refl _ _))⟩ q.below) ?_ | refine q_gives rfl rfl rfl rfl rfl rfl (fun _ _ q => hS2 _ ⟨(sl_at q.own (Below.refl _ _)), q.own.here (.rows pl1) (Take.mem (by (repeat (first | exact Take.here _ _ | apply Take.there))))⟩ q.below) ?_ | refine q_val (e_eqSp rfl rfl rfl) rfl rfl rfl ?_ | refine q_val (e_extract rfl rfl rfl) rfl rfl rfl ?_ | refine q_val (e_not rfl rfl) rfl rfl rfl ?_ | refine q_val (e_add1 rfl rfl rfl (by omega)) rfl rfl rfl ?_ | refine q_val (e_add rfl rfl rfl (IntWalk.i64_in _ (by omega))) rfl rfl rfl ?_ | refine q_val (e_sub rfl rfl rfl (IntWalk.i64_in _ (by omega))) rfl rfl rfl ?_ | refine q_val (e_mul rfl rfl rfl (IntWalk.i64_in _ (by omega))) rfl rfl rfl ?_ | refine q_val (e_index rfl rfl rfl rfl (by omega)) rfl rfl rfl ?_ | refine q_val (e_indexA rfl rfl rfl rfl (by first | decide | omega)) rfl rfl rfl ?_ | refine q_val (e_len rfl rfl) rfl rfl rfl ?_ | refine q_val (e_cap rfl rfl) rfl rfl rfl ?_ | refine q_val (e_nilCheck rfl rfl) rfl rfl rfl ?_ | refine q_val (e_convert rfl rfl (IntWalk.i64_in _ (by omega))) rfl rfl rfl ?_ | refine q_val (e_quo rfl rfl rfl (by omega) (by omega) (IntWalk.i64_in _ (by omega))) rfl rfl rfl ?_ | refine q_val (e_rem rfl rfl rfl (by omega) (by omega)) rfl rfl rfl ?_ | refine q_val (e_min rfl rfl rfl) rfl rfl rfl ?_ | refine q_val (e_max rfl rfl rfl) rfl rfl rfl ?_ | refine q_val (e_build' rfl rfl (by exact rfl)) rfl rfl rfl ?_ | refine q_val (e_makeFunc rfl rfl rfl) rfl rfl rfl ?_) | (with_reducible refine q_nil ?_)))
    all_goals (repeat' (first | ((with_reducible refine isOps ?_); first | refine u_move rfl rfl rfl rfl rfl ?_ | refine u_assign rfl rfl rfl rfl rfl ?_ | (refine x_load rfl rfl rfl rfl rfl ?_; refine ⟨_, rfl, ?_⟩) | refine u_pick rfl rfl rfl rfl rfl rfl ?_ | refine u_not_wanted rfl rfl rfl ?_ | refine u_not_wanted0 rfl rfl ?_ | (refine u_cmp rfl rfl rfl rfl rfl rfl rfl (fun h => ?_) (fun h => ?_) <;> (dsimp only [cmpP] at h; (try (exfalso; omega)))) | refine u_extract rfl rfl rfl rfl rfl rfl ?_ | (refine x_store rfl rfl rfl rfl rfl ?_; refine And.intro rfl (And.intro (by first | decide | exact Nat.le_of_ble_eq_true rfl | (simp; omega)) ⟨_, rfl, ?_⟩)) | (refine u_alloc rfl rfl rfl rfl (fun b => ?_)) | (refine u_box rfl rfl rfl rfl rfl rfl (fun b => ?_))) | (with_reducible first | refine u_seq ?_ | refine u_region ?_ | refine u_nil ?_ | refine u_then_n ?_ | refine u_ret ?_ | refine u_skip ?_ | refine u_then_r ?_ | refine u_end ?_) | ((with_reducible refine u_cond_t ?_ ?_); (· exact rfl)) | ((with_reducible refine u_cond_f ?_ ?_); (· exact rfl))))
    all_goals exact u_done (by (exact ResL.cons (by exact Res1.tmp rfl) ResL.nil)) () trivial rfl (fun _ h => h.sub (by (repeat (first | exact Out.nil _ | (refine Out.cons (by (repeat (first | exact Take.here _ _ | apply Take.there))) ?_)))))
  · rw [hgr] at hGr
    unfold cellsCov at hGr ⊢
    (refine ret_enter (n := 119) Tryd.func4 rfl rfl rfl ?_)
    (repeat' (first | ((with_reducible refine isOps ?_); first | refine u_move rfl rfl rfl rfl rfl ?_ | refine u_assign rfl rfl rfl rfl rfl ?_ | (refine x_load rfl rfl rfl rfl rfl ?_; refine ⟨_, rfl, ?_⟩) | refine u_pick rfl rfl rfl rfl rfl rfl ?_ | refine u_not_wanted rfl rfl rfl ?_ | refine u_not_wanted0 rfl rfl ?_ | (refine u_cmp rfl rfl rfl rfl rfl rfl rfl (fun h => ?_) (fun h => ?_) <;> (dsimp only [cmpP] at h; (try (exfalso; omega)))) | refine u_gives rfl rfl rfl rfl rfl rfl (fun _ _ q => hGr _ q.below) ?_ | refine u_extract rfl rfl rfl rfl rfl rfl ?_ | (refine x_store rfl rfl rfl rfl rfl ?_; refine And.intro rfl (And.intro (by first | decide | exact Nat.le_of_ble_eq_true rfl | (simp; omega)) ⟨_, rfl, ?_⟩)) | (refine u_alloc rfl rfl rfl rfl (fun b => ?_)) | (refine u_box rfl rfl rfl rfl rfl rfl (fun b => ?_))) | (with_reducible first | refine u_seq ?_ | refine u_region ?_ | refine u_nil ?_ | refine u_then_n ?_ | refine u_ret ?_ | refine u_skip ?_ | refine u_then_r ?_ | refine u_end ?_) | ((with_reducible refine u_cond_t ?_ ?_); (· exact rfl)) | ((with_reducible refine u_cond_f ?_ ?_); (· exact rfl))))
    all_goals exact u_done (by (exact ResL.cons (by exact Res1.tmp rfl) ResL.nil)) () trivial rfl (fun _ h => h.sub (by (repeat (first | exact Out.nil _ | (refine Out.cons (by (repeat (first | exact Take.here _ _ | apply Take.there))) ?_)))))
end Go.Proofs.YtdigopgncfhiaaaDoor
