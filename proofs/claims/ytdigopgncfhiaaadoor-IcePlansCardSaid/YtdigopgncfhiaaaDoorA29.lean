/- Ice: the law of plans. -/
import Derived.Test.YtdigopgncfhiaaaDoorA28
import Derived.Test.YtdigopgncfhiaaaDoorA11
import Derived.Test.YtdigopgncfhiaaaDoorA10
namespace Go.Proofs.YtdigopgncfhiaaaDoor
open Go.RowKit
set_option linter.unusedSimpArgs false
set_option linter.unusedVariables false
set_option maxRecDepth 20000
theorem sameI_yes (x : List Int) (X : Option Addr) (cx : Nat) (Y : Option Addr) (cy : Nat) (W : World) (h1 : SlAt encI 1 W X x) (h2 : SlAt encI 1 W Y x) (h3 : x.length ≤ 1000) : Gv Tryd.prog 16 [.slice X x.length cx, .slice Y x.length cy] W (.bool true) := by
  have hs := fun W' (hW : Below W.heap.size W W') => (same_ints x x X Y cx cy W' (h1.below hW) (h2.below hW) (by omega) (by omega)).gv
  simp only [decide_true] at hs
  unfold Gv
  (refine ret_enter (n := 8) Tryd.func16 rfl rfl rfl ?_)
  (repeat' (first | ((with_reducible refine isOps ?_); first | refine u_move rfl rfl rfl rfl rfl ?_ | refine u_assign rfl rfl rfl rfl rfl ?_ | refine u_gives rfl rfl rfl rfl rfl rfl (fun _ _ q => hs _ q.below) ?_) | (with_reducible first | refine u_seq ?_ | refine u_region ?_ | refine u_nil ?_ | refine u_then_n ?_ | refine u_ret ?_)))
  all_goals exact u_done (by (exact ResL.cons (by exact Res1.tmp rfl) ResL.nil)) () trivial rfl (fun _ h => h.sub (by (repeat (first | exact Out.nil _ | (refine Out.cons (by (repeat (first | exact Take.here _ _ | apply Take.there))) ?_)))))
theorem needT_len {c : Cov} (hs : Small c) : (needT c).1.length ≤ 20 := by
  have := hs.b
  unfold needT; split
  · simp [needsL]; omega
  · simp
set_option maxHeartbeats 4000000 in
theorem icePlans_any (c : Cov) (A : Option Addr) (ca : Nat) (B : Option Addr) (cb : Nat) (C : Option Addr) (cc : Nat) (a : Int) (th : Sp) (w : World) (hc : CovAt w c A B C) (hfit : FitT c.t) (hG : InC w 0 0 limC) :
    Gv Tryd.prog 3 [vCov c A ca B cb C cc, .int .i64 a, vSp th] w (.bool true) := by
  have hGr := fun W (hW : Below w.heap.size w W) => rGreat2_any c A ca B cb C cc [] none 0 W ⟨SlAt.nil, fun s hs => by cases hs⟩ ⟨Nat.le_refl _, Nat.zero_le _⟩
  unfold vCov at hGr
  unfold Gv vCov
  cases hgr : greatI c []
  · rw [hgr] at hGr
    obtain ⟨h1, h2, h3, h4, h5⟩ := greatI_no hgr
    have hs : Small c := ⟨hfit, h1, h2, h3⟩
    have hTw := fun W (hW : Below w.heap.size w W) => twin2_any c A ca B cb C cc W (hc.below hW) (by omega) (by omega) (by omega)
    unfold vCov at hTw
    unfold cellsCov at hTw hGr ⊢
    (refine ret_enter (n := 124) Tryd.func3 rfl rfl rfl ?_)
    (repeat' (first | ((with_reducible refine isOps ?_); first | refine u_assign rfl rfl rfl rfl rfl ?_ | (refine x_load rfl rfl rfl rfl rfl ?_; refine ⟨_, rfl, ?_⟩) | refine u_gives rfl rfl rfl rfl rfl rfl (fun _ _ q => hGr _ q.below) ?_ | (refine u_call rfl rfl rfl rfl rfl rfl (fun _ _ q => hTw _ q.below) ?_; rintro ⟨⟨A1, ca1⟩, ⟨B1, cb1⟩, ⟨C1, cc1⟩⟩ -; dsimp only [List.cons_append, List.nil_append]) | (refine x_store rfl rfl rfl rfl rfl ?_; refine And.intro rfl (And.intro (by first | decide | exact Nat.le_of_ble_eq_true rfl | (simp; omega)) ⟨_, rfl, ?_⟩)) | (refine u_alloc rfl rfl rfl rfl (fun b => ?_)) | (refine u_box rfl rfl rfl rfl rfl rfl (fun b => ?_))) | (with_reducible first | refine u_seq ?_ | refine u_region ?_ | refine u_nil ?_ | refine u_then_n ?_ | refine u_skip ?_) | ((with_reducible refine u_cond_f ?_ ?_); (· exact rfl))))
    have hN1 := fun W (hC : CovAt W c A1 B1 C1) (hG : InC W 0 0 limC) => iNeed_any c A1 ca1 B1 cb1 C1 cc1 W hC hs hG
    have hN2 := fun W (hW : Below w.heap.size w W) => rNeed_any c A ca B cb C cc W (hc.below hW) hs
    have hP1 := fun W (hC : CovAt W c A1 B1 C1) (hG : InC W 0 0 limC) => iPlan_any c A1 ca1 B1 cb1 C1 cc1 W hC hs hG
    have hP2 := fun W (hW : Below w.heap.size w W) => rPlan_any c A ca B cb C cc W (hc.below hW) hs
    have hS1 := fun W (hC : CovAt W c A1 B1 C1) (hG : InC W 0 0 limC) => iShort_any c A1 ca1 B1 cb1 C1 cc1 W hC hs hG
    have hS2 := fun W (hW : Below w.heap.size w W) => rShort_any c A ca B cb C cc W (hc.below hW) hs
    have hD1 := fun W (hC : CovAt W c A1 B1 C1) => Two.iDrill_any c A1 ca1 B1 cb1 C1 cc1 a th W hC hs
    have hD2 := fun W (hW : Below w.heap.size w W) => Two.rDrill_any c A ca B cb C cc a th W (hc.below hW) hs
    have hQ1 := fun W (hC : CovAt W c A1 B1 C1) (hW : Below w.heap.size w W) => same2_yes c A1 ca1 B1 cb1 C1 cc1 A ca B cb C cc W hC (hc.below hW) hs
    obtain ⟨p1, p2⟩ := planX_len hs
    have hds := drillX_small (a := a) (th := th) hs
    have hnl := needT_len hs
    have hsl := shortX_len hs
    unfold vCov at hN1 hN2 hP1 hP2 hS1 hS2 hD1 hD2 hQ1
    unfold vSp at hD1 hD2
    unfold cellsCov at hN1 hN2 hP1 hP2 hS1 hS2 hD1 hD2 hQ1
    generalize drillX c a th = dx at *
    generalize planX c = px at *
    generalize shortX c = sx at *
    generalize needT c = nx at *
    have hI := fun x X cx Y cy W h1 h2 (h3 : x.length ≤ 20) => sameI_yes x X cx Y cy W h1 h2 (by omega)
    have hQ2 := fun A ca B cb C cc A2 ca2 B2 cb2 C2 cc2 W (h1 : CovAt W dx.1 A B C) (h2 : CovAt W dx.1 A2 B2 C2) => same2_yes dx.1 A ca B cb C cc A2 ca2 B2 cb2 C2 cc2 W h1 h2 hds
    unfold vCov cellsCov at hQ2
    (repeat' (first | ((with_reducible refine isOps ?_); first | refine u_move rfl rfl rfl rfl rfl ?_ | refine u_assign rfl rfl rfl rfl rfl ?_ | (refine x_load rfl rfl rfl rfl rfl ?_; refine ⟨_, rfl, ?_⟩) | (refine u_newsl rfl rfl rfl rfl rfl rfl (fun _ _ q => hN1 _ ⟨(sl_at q.own (Below.refl _ _)), (sl_at q.own (Below.refl _ _)), (sl_at q.own (Below.refl _ _))⟩ (hG.below q.below)) (fun N1 nc1 => ?_)) | (refine u_newsl rfl rfl rfl rfl rfl rfl (fun _ _ q => hN2 _ q.below) (fun N2 nc2 => ?_)) | (refine u_newsl rfl rfl rfl rfl rfl rfl (fun _ _ q => hS1 _ ⟨(sl_at q.own (Below.refl _ _)), (sl_at q.own (Below.refl _ _)), (sl_at q.own (Below.refl _ _))⟩ (hG.below q.below)) (fun S1 sc1 => ?_)) | (refine u_newsl rfl rfl rfl rfl rfl rfl (fun _ _ q => hS2 _ q.below) (fun S2 sc2 => ?_)) | (refine u_call rfl rfl rfl rfl rfl rfl (fun _ _ q => hP1 _ ⟨(sl_at q.own (Below.refl _ _)), (sl_at q.own (Below.refl _ _)), (sl_at q.own (Below.refl _ _))⟩ (hG.below q.below)) ?_; rintro ⟨⟨P1, pc1⟩, pl1⟩ hx1; dsimp only [List.cons_append, List.nil_append] at hx1 ⊢) | (refine u_call rfl rfl rfl rfl rfl rfl (fun _ _ q => hP2 _ q.below) ?_; rintro ⟨⟨P2, pc2⟩, pl2⟩ hx2; dsimp only [List.cons_append, List.nil_append] at hx2 ⊢) | (refine u_call rfl rfl rfl rfl rfl rfl (fun _ _ q => hD1 _ ⟨(sl_at q.own (Below.refl _ _)), (sl_at q.own (Below.refl _ _)), (sl_at q.own (Below.refl _ _))⟩) ?_; rintro ⟨⟨E1, ec1⟩, ⟨F1, fc1⟩, ⟨G1, gc1⟩⟩ -; dsimp only [List.cons_append, List.nil_append]) | (refine u_call rfl rfl rfl rfl rfl rfl (fun _ _ q => hD2 _ q.below) ?_; rintro ⟨⟨E2, ec2⟩, ⟨F2, fc2⟩, ⟨G2, gc2⟩⟩ -; dsimp only [List.cons_append, List.nil_append]) | refine u_extract rfl rfl rfl rfl rfl rfl ?_ | (refine x_store rfl rfl rfl rfl rfl ?_; refine And.intro rfl (And.intro (by first | decide | exact Nat.le_of_ble_eq_true rfl | (simp; omega)) ⟨_, rfl, ?_⟩)) | (refine u_alloc rfl rfl rfl rfl (fun b => ?_))) | (with_reducible first | refine u_seq ?_ | refine u_region ?_ | refine u_nil ?_ | refine u_then_n ?_)))
    have hpl1 : pl1.length ≤ 12 := by have := congrArg List.length hx1; rw [List.length_map] at this; omega
    have hpl2 : ∀ s ∈ pl2, s.xs.length ≤ 20 := fun s hs => p2 _ (by rw [← hx2]; exact List.mem_map_of_mem hs)
    have hL := fun W (h1 : PlanAt W P1 pl1) (h2 : PlanAt W P2 pl2) => sameLists_yes pl1 pl2 P1 pc1 P2 pc2 W h1 h2 (hx1.trans hx2.symm) (by omega) (fun s hs => by have := hpl2 s hs; omega)
    (repeat' (first | ((with_reducible refine isOps ?_); first | refine u_move rfl rfl rfl rfl rfl ?_ | refine u_assign rfl rfl rfl rfl rfl ?_ | (refine x_load rfl rfl rfl rfl rfl ?_; refine ⟨_, rfl, ?_⟩) | refine u_pick rfl rfl rfl rfl rfl rfl ?_ | (refine u_cmp rfl rfl rfl rfl rfl rfl rfl (fun h => ?_) (fun h => ?_) <;> (dsimp only [cmpP] at h; (try (exfalso; omega)))) | refine u_gives rfl rfl rfl rfl rfl rfl (fun _ _ q => hI _ _ _ _ _ _ (sl_at q.own (Below.refl _ _)) (sl_at q.own (Below.refl _ _)) hnl) ?_ | refine u_gives rfl rfl rfl rfl rfl rfl (fun _ _ q => hI _ _ _ _ _ _ (sl_at q.own (Below.refl _ _)) (sl_at q.own (Below.refl _ _)) (Nat.le_trans hsl (by decide))) ?_ | refine u_gives rfl rfl rfl rfl rfl rfl (fun _ _ q => hL _ ⟨(sl_at q.own (Below.refl _ _)), q.own.here (.rows pl1) (Take.mem (by (repeat (first | exact Take.here _ _ | apply Take.there))))⟩ ⟨(sl_at q.own (Below.refl _ _)), q.own.here (.rows pl2) (Take.mem (by (repeat (first | exact Take.here _ _ | apply Take.there))))⟩) ?_ | refine u_gives rfl rfl rfl rfl rfl rfl (fun _ _ q => hQ1 _ ⟨(sl_at q.own (Below.refl _ _)), (sl_at q.own (Below.refl _ _)), (sl_at q.own (Below.refl _ _))⟩ q.below) ?_ | refine u_gives rfl rfl rfl rfl rfl rfl (fun _ _ q => hQ2 _ _ _ _ _ _ _ _ _ _ _ _ _ ⟨(sl_at q.own (Below.refl _ _)), (sl_at q.own (Below.refl _ _)), (sl_at q.own (Below.refl _ _))⟩ ⟨(sl_at q.own (Below.refl _ _)), (sl_at q.own (Below.refl _ _)), (sl_at q.own (Below.refl _ _))⟩) ?_) | (with_reducible first | refine u_nil ?_ | refine u_then_n ?_ | refine u_ret ?_)))
    all_goals exact u_done (by (exact ResL.cons (by exact Res1.tmp rfl) ResL.nil)) () trivial rfl (fun _ h => h.sub (by (repeat (first | exact Out.nil _ | (refine Out.cons (by (repeat (first | exact Take.here _ _ | apply Take.there))) ?_)))))
  · rw [hgr] at hGr
    unfold cellsCov at hGr ⊢
    (refine ret_enter (n := 124) Tryd.func3 rfl rfl rfl ?_)
    (repeat' (first | ((with_reducible refine isOps ?_); first | refine u_assign rfl rfl rfl rfl rfl ?_ | (refine x_load rfl rfl rfl rfl rfl ?_; refine ⟨_, rfl, ?_⟩) | refine u_gives rfl rfl rfl rfl rfl rfl (fun _ _ q => hGr _ q.below) ?_ | (refine u_box rfl rfl rfl rfl rfl rfl (fun b => ?_))) | (with_reducible first | refine u_seq ?_ | refine u_region ?_ | refine u_nil ?_ | refine u_then_n ?_ | refine u_ret ?_ | refine u_then_r ?_) | ((with_reducible refine u_cond_t ?_ ?_); (· exact rfl))))
    all_goals exact u_done (by (exact ResL.cons (by exact Res1.tmp rfl) ResL.nil)) () trivial rfl (fun _ h => h.sub (by (repeat (first | exact Out.nil _ | (refine Out.cons (by (repeat (first | exact Take.here _ _ | apply Take.there))) ?_)))))
end Go.Proofs.YtdigopgncfhiaaaDoor
