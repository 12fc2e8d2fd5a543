/- Ice: Thin and Safe; pairs are compared. -/
import Derived.Test.YtdigopgncfhiaaaDoorJ20
namespace Go.Proofs.YtdigopgncfhiaaaDoor
open Go.RowKit
set_option linter.unusedSimpArgs false
set_option linter.unusedVariables false
set_option maxRecDepth 20000
/-- what is told of a plan that is thin: the pairs, or none and the error -/
def thinT (c : Cov) (pl : List Sli) : List (Int × Int) := if errK c pl = 0 then thinS c pl worstE else []
def safeT (c : Cov) (pl : List Sli) : Int := if errK c pl = 0 then (if (thinS c pl worstE).length = 0 then 2 else if (thinS c pl bestE).length = 0 then 1 else 0) else 0
set_option maxHeartbeats 2000000 in
theorem iThin_any (c : Cov) (A : Option Addr) (ca : Nat) (B : Option Addr) (cb : Nat) (C : Option Addr) (cc : Nat) (pl : List Sli) (P : Option Addr) (cp : Nat) (w : World) (hc : CovAt w c A B C) (hs : Small c) (hp : PlanAt w P pl) (hl : pl.length ≤ 12) (hrl : ∀ s ∈ pl, s.xs.length ≤ 20) (hG : InC w 0 0 limC) :
    Ret Tryd.prog 28 [vCov c A ca B cb C cc, .slice P pl.length cp] w (fun p : Option Addr × Nat => .tuple #[.slice p.1 (thinT c pl).length p.2, .int .i64 (errK c pl)]) (fun p => [.sl encPr 2 p.1 (thinT c pl)]) (fun _ => True) := by
  have h1 := fun W (hb : Below w.heap.size w W) => iasked_no c A ca B cb C cc pl P cp W (hc.below hb) hs (hp.below hb) hl hrl
  have h2 := fun W (hb : Below w.heap.size w W) => iasked_ok c A ca B cb C cc pl P cp W (hc.below hb) hs (hp.below hb) hl hrl
  unfold vCov at h1 h2
  unfold vCov thinT
  by_cases h0 : errK c pl = 0
  · rw [if_pos h0, h0]
    obtain ⟨h00, hpl⟩ := errK_zero h0
    have hf := fine_of h00
    have h2 := fun W hb => h2 W hb h00 hpl
    have hT := fun W (hb : Below w.heap.size w W) g (hr : InC W g 0 (cellsCov c A ca B cb C cc)) => ithin_any (en := worstE) (enF := 74) worst_any c A ca B cb C cc g pl P cp W hr (hG.below hb) (hc.below hb) hs hf (hp.below hb) hrl (planOk_iff.1 hpl).1
    unfold cellsCov at h2 hT ⊢
    (refine ret_enter (n := 20) Tryd.func28 rfl rfl rfl ?_)
    (repeat' (first | ((with_reducible refine isOps ?_); first | refine u_move rfl rfl rfl rfl rfl ?_ | refine u_assign rfl rfl rfl rfl rfl ?_ | (refine x_load rfl rfl rfl rfl rfl ?_; refine ⟨_, rfl, ?_⟩) | (refine u_cmp rfl rfl rfl rfl rfl rfl rfl (fun h => ?_) (fun h => ?_) <;> (dsimp only [cmpP] at h; (try (exfalso; omega)))) | (refine u_call rfl rfl rfl rfl rfl rfl (fun _ _ q => h2 _ q.below) ?_; rintro g -; dsimp only [List.cons_append, List.nil_append]) | (refine u_call rfl rfl rfl rfl rfl rfl (fun _ _ q => hT _ q.below g (cells_by q.own (Below.refl _ _) rfl)) ?_; rintro ⟨A', c'⟩ -; dsimp only [List.cons_append, List.nil_append]) | refine u_extract rfl rfl rfl rfl rfl rfl ?_ | (refine u_box rfl rfl rfl rfl rfl rfl (fun b => ?_))) | (with_reducible first | refine u_seq ?_ | refine u_region ?_ | refine u_nil ?_ | refine u_then_n ?_ | refine u_ret ?_ | refine u_skip ?_ | refine u_then_r ?_ | refine u_end ?_) | ((with_reducible refine u_cond_t ?_ ?_); (· exact rfl)) | ((with_reducible refine u_cond_f ?_ ?_); (· exact rfl))))
    exact u_done (by (exact ResL.cons (by exact Res1.tmp rfl) (ResL.cons (by exact Res1.tmp rfl) ResL.nil))) (A', c') trivial rfl (fun _ h => h.sub (by (repeat (first | exact Out.nil _ | (refine Out.cons (by (repeat (first | exact Take.here _ _ | apply Take.there))) ?_)))))
  · rw [if_neg h0]
    unfold cellsCov at h1 ⊢
    generalize errK c pl = e at *
    (refine ret_enter (n := 20) Tryd.func28 rfl rfl rfl ?_)
    (repeat' (first | ((with_reducible refine isOps ?_); first | refine u_move rfl rfl rfl rfl rfl ?_ | refine u_assign rfl rfl rfl rfl rfl ?_ | (refine x_load rfl rfl rfl rfl rfl ?_; refine ⟨_, rfl, ?_⟩) | (refine u_cmp rfl rfl rfl rfl rfl rfl rfl (fun h => ?_) (fun h => ?_) <;> (dsimp only [cmpP] at h; (try (exfalso; omega)))) | refine u_gives rfl rfl rfl rfl rfl rfl (fun _ _ q => h1 _ q.below h0) ?_ | refine u_extract rfl rfl rfl rfl rfl rfl ?_ | (refine u_box rfl rfl rfl rfl rfl rfl (fun b => ?_))) | (with_reducible first | refine u_seq ?_ | refine u_region ?_ | refine u_nil ?_ | refine u_then_n ?_ | refine u_ret ?_ | refine u_skip ?_ | refine u_then_r ?_ | refine u_end ?_) | ((with_reducible refine u_cond_t ?_ ?_); (· exact rfl)) | ((with_reducible refine u_cond_f ?_ ?_); (· exact rfl))))
    all_goals exact u_done (by (exact ResL.cons (by exact Res1.tmp rfl) (ResL.cons (by exact Res1.tmp rfl) ResL.nil))) (none, 0) trivial rfl (fun _ h => (sl_nil h).sub (by (repeat (first | exact Out.nil _ | (refine Out.cons (by (repeat (first | exact Take.here _ _ | apply Take.there))) ?_)))))
set_option maxHeartbeats 2000000 in
theorem iSafe_any (c : Cov) (A : Option Addr) (ca : Nat) (B : Option Addr) (cb : Nat) (C : Option Addr) (cc : Nat) (pl : List Sli) (P : Option Addr) (cp : Nat) (w : World) (hc : CovAt w c A B C) (hs : Small c) (hp : PlanAt w P pl) (hl : pl.length ≤ 12) (hrl : ∀ s ∈ pl, s.xs.length ≤ 20) (hG : InC w 0 0 limC) :
    Gv Tryd.prog 30 [vCov c A ca B cb C cc, .slice P pl.length cp] w (.tuple #[.int .u8 (safeT c pl), .int .i64 (errK c pl)]) := by
  have h1 := fun W (hb : Below w.heap.size w W) => iasked_no c A ca B cb C cc pl P cp W (hc.below hb) hs (hp.below hb) hl hrl
  have h2 := fun W (hb : Below w.heap.size w W) => iasked_ok c A ca B cb C cc pl P cp W (hc.below hb) hs (hp.below hb) hl hrl
  unfold vCov at h1 h2
  unfold Gv vCov safeT
  by_cases h0 : errK c pl = 0
  · rw [if_pos h0, h0]
    obtain ⟨h00, hpl⟩ := errK_zero h0
    have hf := fine_of h00
    have h2 := fun W hb => h2 W hb h00 hpl
    have hT := fun W (hb : Below w.heap.size w W) g (hr : InC W g 0 (cellsCov c A ca B cb C cc)) => ithin_any (en := worstE) (enF := 74) worst_any c A ca B cb C cc g pl P cp W hr (hG.below hb) (hc.below hb) hs hf (hp.below hb) hrl (planOk_iff.1 hpl).1
    have hB := fun W (hb : Below w.heap.size w W) g (hr : InC W g 0 (cellsCov c A ca B cb C cc)) => ithin_any (en := bestE) (enF := 85) best_any c A ca B cb C cc g pl P cp W hr (hG.below hb) (hc.below hb) hs hf (hp.below hb) hrl (planOk_iff.1 hpl).1
    generalize thinS c pl worstE = l1 at *
    generalize thinS c pl bestE = l2 at *
    unfold cellsCov at h2 hT hB ⊢
    (refine ret_enter (n := 30) Tryd.func30 rfl rfl rfl ?_)
    (repeat' (first | ((with_reducible refine isOps ?_); first | refine u_move rfl rfl rfl rfl rfl ?_ | refine u_assign rfl rfl rfl rfl rfl ?_ | (refine x_load rfl rfl rfl rfl rfl ?_; refine ⟨_, rfl, ?_⟩) | (refine u_cmp rfl rfl rfl rfl rfl rfl rfl (fun h => ?_) (fun h => ?_) <;> (dsimp only [cmpP] at h; (try (exfalso; omega)))) | (refine u_call rfl rfl rfl rfl rfl rfl (fun _ _ q => h2 _ q.below) ?_; rintro g -; dsimp only [List.cons_append, List.nil_append]) | (refine u_call rfl rfl rfl rfl rfl rfl (fun _ _ q => hT _ q.below g (cells_by q.own (Below.refl _ _) rfl)) ?_; rintro ⟨A', c'⟩ -; dsimp only [List.cons_append, List.nil_append]) | (refine u_call rfl rfl rfl rfl rfl rfl (fun _ _ q => hB _ q.below g (cells_by q.own (Below.refl _ _) rfl)) ?_; rintro ⟨A', c'⟩ -; dsimp only [List.cons_append, List.nil_append]) | refine u_extract rfl rfl rfl rfl rfl rfl ?_ | refine u_len rfl rfl rfl rfl rfl ?_ | (refine u_box rfl rfl rfl rfl rfl rfl (fun b => ?_))) | (with_reducible first | refine u_seq ?_ | refine u_region ?_ | refine u_nil ?_ | refine u_then_n ?_ | refine u_ret ?_ | refine u_skip ?_ | refine u_then_r ?_ | refine u_end ?_ | refine u_block ?_ | refine u_exit ?_ | refine u_in_n ?_ | refine u_in_r ?_ | refine u_in_same ?_ | refine u_then_e ?_) | ((with_reducible refine u_in_other ?_ ?_); (· exact rfl)) | ((with_reducible refine u_cond_t ?_ ?_); (· exact rfl)) | ((with_reducible refine u_cond_f ?_ ?_); (· exact rfl))))
    all_goals first | exact u_done (by (exact ResL.cons (by exact Res1.tmp rfl) (ResL.cons (by exact Res1.tmp rfl) ResL.nil))) () trivial (by rw [if_pos (by omega)]; rfl) (fun _ h => h.sub (by (repeat (first | exact Out.nil _ | (refine Out.cons (by (repeat (first | exact Take.here _ _ | apply Take.there))) ?_))))) | exact u_done (by (exact ResL.cons (by exact Res1.tmp rfl) (ResL.cons (by exact Res1.tmp rfl) ResL.nil))) () trivial (by rw [if_neg (by omega), if_pos (by omega)]; rfl) (fun _ h => h.sub (by (repeat (first | exact Out.nil _ | (refine Out.cons (by (repeat (first | exact Take.here _ _ | apply Take.there))) ?_))))) | exact u_done (by (exact ResL.cons (by exact Res1.tmp rfl) (ResL.cons (by exact Res1.tmp rfl) ResL.nil))) () trivial (by rw [if_neg (by omega), if_neg (by omega)]; rfl) (fun _ h => h.sub (by (repeat (first | exact Out.nil _ | (refine Out.cons (by (repeat (first | exact Take.here _ _ | apply Take.there))) ?_)))))
  · rw [if_neg h0]
    unfold cellsCov at h1 ⊢
    generalize errK c pl = e at *
    (refine ret_enter (n := 30) Tryd.func30 rfl rfl rfl ?_)
    (repeat' (first | ((with_reducible refine isOps ?_); first | refine u_move rfl rfl rfl rfl rfl ?_ | refine u_assign rfl rfl rfl rfl rfl ?_ | (refine x_load rfl rfl rfl rfl rfl ?_; refine ⟨_, rfl, ?_⟩) | (refine u_cmp rfl rfl rfl rfl rfl rfl rfl (fun h => ?_) (fun h => ?_) <;> (dsimp only [cmpP] at h; (try (exfalso; omega)))) | refine u_gives rfl rfl rfl rfl rfl rfl (fun _ _ q => h1 _ q.below h0) ?_ | refine u_extract rfl rfl rfl rfl rfl rfl ?_ | refine u_len rfl rfl rfl rfl rfl ?_ | (refine u_box rfl rfl rfl rfl rfl rfl (fun b => ?_))) | (with_reducible first | refine u_seq ?_ | refine u_region ?_ | refine u_nil ?_ | refine u_then_n ?_ | refine u_ret ?_ | refine u_skip ?_ | refine u_then_r ?_ | refine u_end ?_ | refine u_block ?_ | refine u_exit ?_ | refine u_in_n ?_ | refine u_in_r ?_ | refine u_in_same ?_ | refine u_then_e ?_) | ((with_reducible refine u_in_other ?_ ?_); (· exact rfl)) | ((with_reducible refine u_cond_t ?_ ?_); (· exact rfl)) | ((with_reducible refine u_cond_f ?_ ?_); (· exact rfl))))
    all_goals exact u_done (by (exact ResL.cons (by exact Res1.tmp rfl) (ResL.cons (by exact Res1.tmp rfl) ResL.nil))) () trivial rfl (fun _ h => h.sub (by (repeat (first | exact Out.nil _ | (refine Out.cons (by (repeat (first | exact Take.here _ _ | apply Take.there))) ?_)))))
end Go.Proofs.YtdigopgncfhiaaaDoor
/- Ice: what is too thin, by the reference. -/
namespace Go.Proofs.YtdigopgncfhiaaaDoor
open Go.RowKit
set_option linter.unusedSimpArgs false
set_option linter.unusedVariables false
def thinV (c : Cov) (pl : List Sli) (en : Sp → Sp → Int) (h k : Nat) : List (Int × Int) := ((List.range k).filter fun i => tooThin c pl en (c.beds.getD i default) i h).map fun (i : Nat) => ((h : Int), (i : Int))
def thinU (c : Cov) (pl : List Sli) (en : Sp → Sp → Int) (m : Nat) : List (Int × Int) := (List.range m).flatMap fun h => thinV c pl en h c.beds.length
theorem thinU_all {c : Cov} {pl : List Sli} {en : Sp → Sp → Int} : thinU c pl en c.hours.length = thinS c pl en := rfl
theorem thinU_succ {c : Cov} {pl : List Sli} {en : Sp → Sp → Int} {m : Nat} : thinU c pl en (m + 1) = thinU c pl en m ++ thinV c pl en m c.beds.length := by
  unfold thinU
  rw [List.range_succ, List.flatMap_append]
  simp only [List.flatMap_cons, List.flatMap_nil, List.append_nil]
theorem thinV_succ {c : Cov} {pl : List Sli} {en : Sp → Sp → Int} {h k : Nat} : thinV c pl en h (k + 1) = thinV c pl en h k ++ (if tooThin c pl en (c.beds.getD k default) k h then [((h : Int), (k : Int))] else []) := by
  unfold thinV
  rw [List.range_succ, List.filter_append, List.map_append]
  congr 1
  rw [List.filter_cons, List.filter_nil]
  by_cases hk : tooThin c pl en (c.beds.getD k default) k h = true
  · rw [if_pos hk, if_pos (by exact hk)]; rfl
  · rw [if_neg hk, if_neg (by exact hk)]; rfl
theorem thinV_len {c : Cov} {pl : List Sli} {en : Sp → Sp → Int} {h k : Nat} : (thinV c pl en h k).length ≤ k := by
  unfold thinV
  rw [List.length_map]
  exact Nat.le_trans (List.length_filter_le _ _) (by simp)
theorem thinU_len {c : Cov} {pl : List Sli} {en : Sp → Sp → Int} : ∀ m, (thinU c pl en m).length ≤ m * c.beds.length
  | 0 => by simp [thinU]
  | m + 1 => by
    rw [thinU_succ, List.length_append, Nat.succ_mul]
    have := thinU_len (c := c) (pl := pl) (en := en) m
    have := thinV_len (c := c) (pl := pl) (en := en) (h := m) (k := c.beds.length)
    omega
end Go.Proofs.YtdigopgncfhiaaaDoor
namespace Go.Proofs.YtdigopgncfhiaaaDoor.Two
open Go.RowKit
set_option linter.unusedSimpArgs false
set_option linter.unusedVariables false
set_option maxRecDepth 20000
set_option maxHeartbeats 4000000 in
theorem rthin_any (c : Cov) (A : Option Addr) (ca : Nat) (B : Option Addr) (cb : Nat) (C : Option Addr) (cc : Nat) (pl : List Sli) (P : Option Addr) (cp : Nat) (al : Bool) (w : World) (hc : CovAt w c A B C) (hs : Small c) (hf : Fine c) (hp : PlanAt w P pl) (hrl : ∀ s ∈ pl, s.xs.length ≤ 20) (hpl : pl.length = c.hours.length) :
    NewSl encPr 2 (thinS c pl (if al then bestE else worstE)) (fun v => v) Tryd.prog 84 [vCov c A ca B cb C cc, .slice P pl.length cp, .bool al] w := by
  have h4 := hs.b; have h5 := hs.h
  have hT := fun W (hb : Below w.heap.size w W) i z n hz hn => rthick2_any c A ca B cb C cc pl P cp i n z W (hc.below hb) hs hf (hp.below hb) hrl hpl hz hn
  have hL := fun W (hb : Below w.heap.size w W) i j z u hz hu => Two.rloss2_any c A ca B cb C cc i j z u W (hc.below hb) hs hf hz hu
  have hK := fun W (hb : Below w.heap.size w W) j u hu => rasks2_any c A ca B cb C cc j u W (hc.below hb) hs hu
  unfold vCov vSp at hT hL
  unfold vCov at hK
  unfold cellsCov at hT hL hK
  rw [← thinU_all]
  generalize hen : (if al then bestE else worstE) = en
  unfold NewSl vCov cellsCov
  (refine ret_enter (n := 59) Tryd.func84 rfl rfl rfl ?_)
  (repeat' (first | ((with_reducible refine isOps ?_); first | refine u_move rfl rfl rfl rfl rfl ?_ | refine u_assign rfl rfl rfl rfl rfl ?_ | (refine x_load rfl rfl rfl rfl rfl ?_; refine ⟨_, rfl, ?_⟩) | refine u_field rfl rfl rfl rfl rfl ?_ | (refine u_cmp rfl rfl rfl rfl rfl rfl rfl (fun h => ?_) (fun h => ?_) <;> (dsimp only [cmpP] at h; (try (exfalso; omega)))) | refine u_add1 rfl rfl rfl rfl rfl rfl (by omega) ?_ | refine u_add rfl rfl rfl rfl rfl rfl (IntWalk.i64_in _ (by omega)) ?_ | refine u_sub rfl rfl rfl rfl rfl rfl (IntWalk.i64_in _ (by omega)) ?_ | refine u_len rfl rfl rfl rfl rfl ?_ | (refine x_store rfl rfl rfl rfl rfl ?_; refine And.intro rfl (And.intro (by first | decide | exact Nat.le_of_ble_eq_true rfl | (simp; omega)) ⟨_, rfl, ?_⟩)) | (refine u_alloc rfl rfl rfl rfl (fun b => ?_)) | (refine u_box rfl rfl rfl rfl rfl rfl (fun b => ?_)) | (refine x_build rfl rfl rfl rfl rfl ?_; refine ⟨_, rfl, ?_⟩) | (refine x_buildSlice rfl rfl rfl rfl rfl ?_; refine ⟨rfl, _, rfl, fun b => ?_⟩)) | (with_reducible first | refine u_seq ?_ | refine u_region ?_ | refine u_nil ?_ | refine u_then_n ?_ | refine u_ret ?_ | refine u_skip ?_ | refine u_then_r ?_ | refine u_end ?_ | refine u_block ?_ | refine u_exit ?_ | refine u_in_n ?_ | refine u_in_r ?_ | refine u_in_same ?_ | refine u_then_e ?_) | ((with_reducible refine u_in_other ?_ ?_); (· exact rfl)) | ((with_reducible refine u_cond_t ?_ ?_); (· exact rfl)) | ((with_reducible refine u_cond_f ?_ ?_); (· exact rfl))))
  refine u_row_nil encPr 2 134 ?_
  refine u_loopP (ι := Nat × Value) [1, 2, 3] rfl (fun q => q.1 ≤ c.hours.length) (fun q => [(8, .int .i64 (q.1 : Int)), (7, q.2)]) (fun q => [.row encPr 2 134 q.2 (thinU c pl en q.1), .blk b (cellsCov c A ca B cb C cc)]) (fun q => c.hours.length - q.1) (0, .slice none 0 0) (Nat.zero_le _) (by (first | exact fun _ _ h => lk_nil h | (repeat (first | exact (fun _ _ h => lk_nil h) | (refine lk_sub rfl ?_))))) (by (repeat (first | exact Out.nil _ | (refine Out.cons (by (repeat (first | exact Take.here _ _ | apply Take.there))) ?_)))) ?_
  rintro ⟨y, v⟩ hh
  simp only at hh
  simp only [zipR, cellsCov, List.cons_append, List.nil_append]
  by_cases hlt : y < c.hours.length
  · obtain ⟨u, hu⟩ : ∃ u, c.hours[y]? = some u := ⟨_, List.getElem?_eq_getElem hlt⟩
    have hUl := thinU_len (c := c) (pl := pl) (en := en) y
    have hUb : y * c.beds.length ≤ 12 * 20 := Nat.mul_le_mul (by omega) (by omega)
    (repeat' (first | ((with_reducible refine isOps ?_); first | refine u_move rfl rfl rfl rfl rfl ?_ | refine u_assign rfl rfl rfl rfl rfl ?_ | (refine x_load rfl rfl rfl rfl rfl ?_; refine ⟨_, rfl, ?_⟩) | refine u_field rfl rfl rfl rfl rfl ?_ | (refine u_cmp rfl rfl rfl rfl rfl rfl rfl (fun h => ?_) (fun h => ?_) <;> (dsimp only [cmpP] at h; (try (exfalso; omega)))) | refine u_add1 rfl rfl rfl rfl rfl rfl (by omega) ?_ | refine u_add rfl rfl rfl rfl rfl rfl (IntWalk.i64_in _ (by omega)) ?_ | refine u_sub rfl rfl rfl rfl rfl rfl (IntWalk.i64_in _ (by omega)) ?_ | refine u_len rfl rfl rfl rfl rfl ?_ | (refine x_store rfl rfl rfl rfl rfl ?_; refine And.intro rfl (And.intro (by first | decide | exact Nat.le_of_ble_eq_true rfl | (simp; omega)) ⟨_, rfl, ?_⟩)) | (refine u_alloc rfl rfl rfl rfl (fun b => ?_)) | (refine u_box rfl rfl rfl rfl rfl rfl (fun b => ?_)) | (refine x_build rfl rfl rfl rfl rfl ?_; refine ⟨_, rfl, ?_⟩) | (refine x_buildSlice rfl rfl rfl rfl rfl ?_; refine ⟨rfl, _, rfl, fun b => ?_⟩)) | (with_reducible first | refine u_seq ?_ | refine u_region ?_ | refine u_nil ?_ | refine u_then_n ?_ | refine u_ret ?_ | refine u_skip ?_ | refine u_then_r ?_ | refine u_end ?_ | refine u_block ?_ | refine u_exit ?_ | refine u_in_n ?_ | refine u_in_r ?_ | refine u_in_same ?_ | refine u_then_e ?_) | ((with_reducible refine u_in_other ?_ ?_); (· exact rfl)) | ((with_reducible refine u_cond_t ?_ ?_); (· exact rfl)) | ((with_reducible refine u_cond_f ?_ ?_); (· exact rfl))))
    refine u_loopP (ι := Nat × Value) [1, 2, 3, 8] rfl (fun q => q.1 ≤ c.beds.length) (fun q => [(9, .int .i64 (q.1 : Int)), (7, q.2)]) (fun q => [.row encPr 2 134 q.2 (thinU c pl en y ++ thinV c pl en y q.1), .blk b (cellsCov c A ca B cb C cc)]) (fun q => c.beds.length - q.1) (0, v) (Nat.zero_le _) (by (first | exact fun _ _ h => lk_nil h | (repeat (first | exact (fun _ _ h => lk_nil h) | (refine lk_sub rfl ?_))))) (by simp only [thinV, List.range_zero, List.filter_nil, List.map_nil, List.append_nil]; (repeat (first | exact Out.nil _ | (refine Out.cons (by (repeat (first | exact Take.here _ _ | apply Take.there))) ?_)))) ?_
    rintro ⟨i, v⟩ hi
    simp only at hi
    simp only [zipR, cellsCov, List.cons_append, List.nil_append]
    by_cases hil : i < c.beds.length
    · obtain ⟨z, hz⟩ : ∃ z, c.beds[i]? = some z := ⟨_, List.getElem?_eq_getElem hil⟩
      have hT := fun W hb => hT W hb i z y hz (by omega)
      have hL := fun W hb => hL W hb i y z u hz hu
      have hK := fun W hb => hK W hb y u hu
      have hti := thick_in (c := c) (pl := pl) (i := (i : Int)) hf (List.mem_of_getElem? hz) y (by omega)
      have hli := lossC_in hf (List.mem_of_getElem? hz) (List.mem_of_getElem? hu)
      have hTT : tooThin c pl en (c.beds.getD i default) i y = decide (en (thickN c pl z (i : Int) y) (lossC c z u) < asksC c u) := by
        unfold tooThin; rw [getD_of hu, getD_of hz]
      have hS := thinV_succ (c := c) (pl := pl) (en := en) (h := y) (k := i)
      rw [hTT] at hS
      have hVl := thinV_len (c := c) (pl := pl) (en := en) (h := y) (k := i)
      generalize hxs : thinU c pl en y ++ thinV c pl en y i = xs at *
      have hxl : xs.length ≤ 300 := by rw [← hxs, List.length_append]; omega
      have hnext : thinU c pl en y ++ thinV c pl en y (i + 1) = xs ++ (if en (thickN c pl z (i : Int) y) (lossC c z u) < asksC c u then [((y : Int), (i : Int))] else []) := by
        rw [hS, ← List.append_assoc, hxs]; simp only [decide_eq_true_eq]
      generalize thickN c pl z (i : Int) y = t at *
      generalize lossC c z u = lo at *
      generalize asksC c u = ak at *
      (repeat' (first | ((with_reducible refine isOps ?_); first | refine u_move rfl rfl rfl rfl rfl ?_ | refine u_assign rfl rfl rfl rfl rfl ?_ | (refine x_load rfl rfl rfl rfl rfl ?_; refine ⟨_, rfl, ?_⟩) | refine u_field rfl rfl rfl rfl rfl ?_ | (refine u_cmp rfl rfl rfl rfl rfl rfl rfl (fun h => ?_) (fun h => ?_) <;> (dsimp only [cmpP] at h; (try (exfalso; omega)))) | refine u_add1 rfl rfl rfl rfl rfl rfl (by omega) ?_ | refine u_add rfl rfl rfl rfl rfl rfl (IntWalk.i64_in _ (by omega)) ?_ | refine u_sub rfl rfl rfl rfl rfl rfl (IntWalk.i64_in _ (by omega)) ?_ | refine u_len rfl rfl rfl rfl rfl ?_ | (refine x_store rfl rfl rfl rfl rfl ?_; refine And.intro rfl (And.intro (by first | decide | exact Nat.le_of_ble_eq_true rfl | (simp; omega)) ⟨_, rfl, ?_⟩)) | (refine u_alloc rfl rfl rfl rfl (fun b => ?_)) | (refine u_box rfl rfl rfl rfl rfl rfl (fun b => ?_)) | (refine x_build rfl rfl rfl rfl rfl ?_; refine ⟨_, rfl, ?_⟩) | (refine x_buildSlice rfl rfl rfl rfl rfl ?_; refine ⟨rfl, _, rfl, fun b => ?_⟩)) | (with_reducible first | refine u_seq ?_ | refine u_region ?_ | refine u_nil ?_ | refine u_then_n ?_ | refine u_ret ?_ | refine u_skip ?_ | refine u_then_r ?_ | refine u_end ?_ | refine u_block ?_ | refine u_exit ?_ | refine u_in_n ?_ | refine u_in_r ?_ | refine u_in_same ?_ | refine u_then_e ?_) | ((with_reducible refine u_in_other ?_ ?_); (· exact rfl)) | ((with_reducible refine u_cond_t ?_ ?_); (· exact rfl)) | ((with_reducible refine u_cond_f ?_ ?_); (· exact rfl))))
      (refine u_chain [(9, 11)] [] [] rfl (by decide) (fun _ h => h) (by kernel_rfl) [[], [false], [false, false], [false, false, false], [true, true, true, true], [false, false, false, false, false], [false, false, false, false, false, false], [false, false, false, false, false, false, false], [true, true, true, true, true, true, true, true], [false, false, false, false, false, false, false, false, false], [false, false, false, false, false, false, false, false, false, false], [true, true, true, true, true, true, true, true, true, true, true], [true, true, true, true, true, true, true, true, true, true, true, true]] (by kernel_rfl) (by kernel_rfl) (by kernel_rfl) (by kernel_rfl) (by kernel_rfl) ?_)
      (repeat' (first | (((with_reducible refine c_go ?_ ?_); (· exact rfl); refine ⟨_, fun G => (by (try simp (decide := true) only [vis, see, fltT, entsT, Nat.reduceAdd, Nat.reduceSub, if_true, if_false, List.set_cons_zero, List.set_cons_succ, List.set_nil, List.nil_append, List.cons_append]); rfl), ?_⟩); first | refine c_val _ (fun _ => e_move rfl rfl) (fun _ => rfl) rfl (by first | exact fun _ _ _ => rfl | (intro G G' h; simp (decide := true) only [h])) ?_ | refine c_val _ (fun _ => e_load' rfl rfl (by exact rfl)) (fun _ => rfl) rfl (by first | exact fun _ _ _ => rfl | (intro G G' h; simp (decide := true) only [h])) ?_ | refine c_gives _ rfl (fun _ => rfl) rfl (fun _ => rfl) (fun _ => rfl) (fun _ _ _ q => hT _ q.below) (by first | exact fun _ _ _ => rfl | (intro G G' h; simp (decide := true) only [h])) ?_ | refine c_gives _ rfl (fun _ => rfl) rfl (fun _ => rfl) (fun _ => rfl) (fun _ _ _ q => hL _ q.below) (by first | exact fun _ _ _ => rfl | (intro G G' h; simp (decide := true) only [h])) ?_ | refine c_alloc rfl (fun _ => rfl) rfl ?_) | (refine c_storeT (gx := fun G => (G 9).g) (cs := fun _ => [.int .i64 0, .int .i64 0]) (cs' := fun _ => [.int .i64 t.lo, .int .i64 t.hi]) 9 (by decide) rfl rfl (fun _ => rfl) rfl (fun _ => rfl) (fun _ => rfl) (fun _ => rfl) (fun _ => rfl) (fun _ => rfl) (fun _ => rfl) (fun _ => rfl) (by intro G G' h; simp (decide := true) only [h]) (by exact fun _ _ _ => rfl) ?_) | ((with_reducible refine c_tail ?_ ?_); (· exact rfl)) | (with_reducible refine c_nil ?_)))
      intro G
      simp only [regsT, ini, List.nil_append, List.cons_append]
      refine u_own (H' := [.blk (G 9).g [.int .i64 t.lo, .int .i64 t.hi], .blk (G 10).g [.int .i64 0, .int .i64 0], .row encPr 2 134 v xs, .blk b (cellsCov c A ca B cb C cc)]) (fun _ h => h) ?_
      unfold cellsCov
      cases al
      · simp only [Bool.false_eq_true, if_false] at hen
        subst hen
        (repeat' (first | ((with_reducible refine isOps ?_); first | refine u_move rfl rfl rfl rfl rfl ?_ | refine u_assign rfl rfl rfl rfl rfl ?_ | (refine x_load rfl rfl rfl rfl rfl ?_; refine ⟨_, rfl, ?_⟩) | refine u_field rfl rfl rfl rfl rfl ?_ | (refine u_cmp rfl rfl rfl rfl rfl rfl rfl (fun h => ?_) (fun h => ?_) <;> (dsimp only [cmpP] at h; (try (exfalso; omega)))) | refine u_gives rfl rfl rfl rfl rfl rfl (fun _ _ q => hK _ q.below) ?_ | (refine u_append (enc := encPr) [((y : Int), (i : Int))] rfl rfl rfl rfl rfl (by (repeat (first | exact Take.here _ _ | apply Take.there))) rfl rfl (src_one (by exact rfl)) (by refine ⟨?_, by decide⟩; (try simp only [List.length_append, List.length_cons, List.length_nil]); omega) (fun A' c' => ?_)) | (refine x_buildA rfl rfl rfl rfl rfl ?_; refine ⟨_, rfl, ?_⟩) | refine u_add1 rfl rfl rfl rfl rfl rfl (by omega) ?_ | refine u_add rfl rfl rfl rfl rfl rfl (IntWalk.i64_in _ (by omega)) ?_ | refine u_sub rfl rfl rfl rfl rfl rfl (IntWalk.i64_in _ (by omega)) ?_ | refine u_len rfl rfl rfl rfl rfl ?_ | (refine x_store rfl rfl rfl rfl rfl ?_; refine And.intro rfl (And.intro (by first | decide | exact Nat.le_of_ble_eq_true rfl | (simp; omega)) ⟨_, rfl, ?_⟩)) | (refine u_alloc rfl rfl rfl rfl (fun b => ?_)) | (refine u_box rfl rfl rfl rfl rfl rfl (fun b => ?_)) | (refine x_build rfl rfl rfl rfl rfl ?_; refine ⟨_, rfl, ?_⟩) | (refine x_buildSlice rfl rfl rfl rfl rfl ?_; refine ⟨rfl, _, rfl, fun b => ?_⟩)) | (with_reducible first | refine u_seq ?_ | refine u_region ?_ | refine u_nil ?_ | refine u_then_n ?_ | refine u_ret ?_ | refine u_skip ?_ | refine u_then_r ?_ | refine u_end ?_ | refine u_block ?_ | refine u_exit ?_ | refine u_in_n ?_ | refine u_in_r ?_ | refine u_in_same ?_ | refine u_then_e ?_) | ((with_reducible refine u_in_other ?_ ?_); (· exact rfl)) | ((with_reducible refine u_cond_t ?_ ?_); (· exact rfl)) | ((with_reducible refine u_cond_f ?_ ?_); (· exact rfl))))
        · exact u_again (i + 1, .slice A' (xs ++ [((y : Int), (i : Int))]).length c') (by simp only; omega) (by simp only; omega) (by (first | exact fun _ _ h => lk_nil h | (repeat (first | exact (fun _ _ h => lk_nil h) | (refine lk_sub rfl ?_))))) (by simp only; rw [hnext, if_pos (show worstE t lo < ak by simp only [worstE]; omega)]; (repeat (first | exact Out.nil _ | (refine Out.cons (by (repeat (first | exact Take.here _ _ | apply Take.there))) ?_))))
        · exact u_again (i + 1, v) (by simp only; omega) (by simp only; omega) (by (first | exact fun _ _ h => lk_nil h | (repeat (first | exact (fun _ _ h => lk_nil h) | (refine lk_sub rfl ?_))))) (by simp only; rw [hnext, if_neg (show ¬ worstE t lo < ak by simp only [worstE]; omega), List.append_nil]; (repeat (first | exact Out.nil _ | (refine Out.cons (by (repeat (first | exact Take.here _ _ | apply Take.there))) ?_))))
      · simp only [if_true] at hen
        subst hen
        (repeat' (first | ((with_reducible refine isOps ?_); first | refine u_move rfl rfl rfl rfl rfl ?_ | refine u_assign rfl rfl rfl rfl rfl ?_ | (refine x_load rfl rfl rfl rfl rfl ?_; refine ⟨_, rfl, ?_⟩) | refine u_field rfl rfl rfl rfl rfl ?_ | (refine u_cmp rfl rfl rfl rfl rfl rfl rfl (fun h => ?_) (fun h => ?_) <;> (dsimp only [cmpP] at h; (try (exfalso; omega)))) | refine u_gives rfl rfl rfl rfl rfl rfl (fun _ _ q => hK _ q.below) ?_ | (refine u_append (enc := encPr) [((y : Int), (i : Int))] rfl rfl rfl rfl rfl (by (repeat (first | exact Take.here _ _ | apply Take.there))) rfl rfl (src_one (by exact rfl)) (by refine ⟨?_, by decide⟩; (try simp only [List.length_append, List.length_cons, List.length_nil]); omega) (fun A' c' => ?_)) | (refine x_buildA rfl rfl rfl rfl rfl ?_; refine ⟨_, rfl, ?_⟩) | refine u_add1 rfl rfl rfl rfl rfl rfl (by omega) ?_ | refine u_add rfl rfl rfl rfl rfl rfl (IntWalk.i64_in _ (by omega)) ?_ | refine u_sub rfl rfl rfl rfl rfl rfl (IntWalk.i64_in _ (by omega)) ?_ | refine u_len rfl rfl rfl rfl rfl ?_ | (refine x_store rfl rfl rfl rfl rfl ?_; refine And.intro rfl (And.intro (by first | decide | exact Nat.le_of_ble_eq_true rfl | (simp; omega)) ⟨_, rfl, ?_⟩)) | (refine u_alloc rfl rfl rfl rfl (fun b => ?_)) | (refine u_box rfl rfl rfl rfl rfl rfl (fun b => ?_)) | (refine x_build rfl rfl rfl rfl rfl ?_; refine ⟨_, rfl, ?_⟩) | (refine x_buildSlice rfl rfl rfl rfl rfl ?_; refine ⟨rfl, _, rfl, fun b => ?_⟩)) | (with_reducible first | refine u_seq ?_ | refine u_region ?_ | refine u_nil ?_ | refine u_then_n ?_ | refine u_ret ?_ | refine u_skip ?_ | refine u_then_r ?_ | refine u_end ?_ | refine u_block ?_ | refine u_exit ?_ | refine u_in_n ?_ | refine u_in_r ?_ | refine u_in_same ?_ | refine u_then_e ?_) | ((with_reducible refine u_in_other ?_ ?_); (· exact rfl)) | ((with_reducible refine u_cond_t ?_ ?_); (· exact rfl)) | ((with_reducible refine u_cond_f ?_ ?_); (· exact rfl))))
        · exact u_again (i + 1, .slice A' (xs ++ [((y : Int), (i : Int))]).length c') (by simp only; omega) (by simp only; omega) (by (first | exact fun _ _ h => lk_nil h | (repeat (first | exact (fun _ _ h => lk_nil h) | (refine lk_sub rfl ?_))))) (by simp only; rw [hnext, if_pos (show bestE t lo < ak by simp only [bestE]; omega)]; (repeat (first | exact Out.nil _ | (refine Out.cons (by (repeat (first | exact Take.here _ _ | apply Take.there))) ?_))))
        · exact u_again (i + 1, v) (by simp only; omega) (by simp only; omega) (by (first | exact fun _ _ h => lk_nil h | (repeat (first | exact (fun _ _ h => lk_nil h) | (refine lk_sub rfl ?_))))) (by simp only; rw [hnext, if_neg (show ¬ bestE t lo < ak by simp only [bestE]; omega), List.append_nil]; (repeat (first | exact Out.nil _ | (refine Out.cons (by (repeat (first | exact Take.here _ _ | apply Take.there))) ?_))))
    · obtain rfl : i = c.beds.length := by omega
      rw [← thinU_succ]
      (repeat' (first | ((with_reducible refine isOps ?_); first | refine u_move rfl rfl rfl rfl rfl ?_ | refine u_assign rfl rfl rfl rfl rfl ?_ | (refine x_load rfl rfl rfl rfl rfl ?_; refine ⟨_, rfl, ?_⟩) | refine u_field rfl rfl rfl rfl rfl ?_ | (refine u_cmp rfl rfl rfl rfl rfl rfl rfl (fun h => ?_) (fun h => ?_) <;> (dsimp only [cmpP] at h; (try (exfalso; omega)))) | refine u_add1 rfl rfl rfl rfl rfl rfl (by omega) ?_ | refine u_add rfl rfl rfl rfl rfl rfl (IntWalk.i64_in _ (by omega)) ?_ | refine u_sub rfl rfl rfl rfl rfl rfl (IntWalk.i64_in _ (by omega)) ?_ | refine u_len rfl rfl rfl rfl rfl ?_ | (refine x_store rfl rfl rfl rfl rfl ?_; refine And.intro rfl (And.intro (by first | decide | exact Nat.le_of_ble_eq_true rfl | (simp; omega)) ⟨_, rfl, ?_⟩)) | (refine u_alloc rfl rfl rfl rfl (fun b => ?_)) | (refine u_box rfl rfl rfl rfl rfl rfl (fun b => ?_)) | (refine x_build rfl rfl rfl rfl rfl ?_; refine ⟨_, rfl, ?_⟩) | (refine x_buildSlice rfl rfl rfl rfl rfl ?_; refine ⟨rfl, _, rfl, fun b => ?_⟩)) | (with_reducible first | refine u_seq ?_ | refine u_region ?_ | refine u_nil ?_ | refine u_then_n ?_ | refine u_ret ?_ | refine u_skip ?_ | refine u_then_r ?_ | refine u_end ?_ | refine u_block ?_ | refine u_exit ?_ | refine u_in_n ?_ | refine u_in_r ?_ | refine u_in_same ?_ | refine u_then_e ?_) | ((with_reducible refine u_in_other ?_ ?_); (· exact rfl)) | ((with_reducible refine u_cond_t ?_ ?_); (· exact rfl)) | ((with_reducible refine u_cond_f ?_ ?_); (· exact rfl))))
      exact u_again (y + 1, v) (by simp only; omega) (by simp only; omega) (by (first | exact fun _ _ h => lk_nil h | (repeat (first | exact (fun _ _ h => lk_nil h) | (refine lk_sub rfl ?_))))) (by (repeat (first | exact Out.nil _ | (refine Out.cons (by (repeat (first | exact Take.here _ _ | apply Take.there))) ?_))))
  · obtain rfl : y = c.hours.length := by omega
    refine u_row_form (by (repeat (first | exact Take.here _ _ | apply Take.there))) ?_
    rintro A9 c9 rfl
    (repeat' (first | ((with_reducible refine isOps ?_); first | refine u_move rfl rfl rfl rfl rfl ?_ | refine u_assign rfl rfl rfl rfl rfl ?_ | (refine x_load rfl rfl rfl rfl rfl ?_; refine ⟨_, rfl, ?_⟩) | refine u_field rfl rfl rfl rfl rfl ?_ | (refine u_cmp rfl rfl rfl rfl rfl rfl rfl (fun h => ?_) (fun h => ?_) <;> (dsimp only [cmpP] at h; (try (exfalso; omega)))) | refine u_add1 rfl rfl rfl rfl rfl rfl (by omega) ?_ | refine u_add rfl rfl rfl rfl rfl rfl (IntWalk.i64_in _ (by omega)) ?_ | refine u_sub rfl rfl rfl rfl rfl rfl (IntWalk.i64_in _ (by omega)) ?_ | refine u_len rfl rfl rfl rfl rfl ?_ | (refine x_store rfl rfl rfl rfl rfl ?_; refine And.intro rfl (And.intro (by first | decide | exact Nat.le_of_ble_eq_true rfl | (simp; omega)) ⟨_, rfl, ?_⟩)) | (refine u_alloc rfl rfl rfl rfl (fun b => ?_)) | (refine u_box rfl rfl rfl rfl rfl rfl (fun b => ?_)) | (refine x_build rfl rfl rfl rfl rfl ?_; refine ⟨_, rfl, ?_⟩) | (refine x_buildSlice rfl rfl rfl rfl rfl ?_; refine ⟨rfl, _, rfl, fun b => ?_⟩)) | (with_reducible first | refine u_seq ?_ | refine u_region ?_ | refine u_nil ?_ | refine u_then_n ?_ | refine u_ret ?_ | refine u_skip ?_ | refine u_then_r ?_ | refine u_end ?_ | refine u_block ?_ | refine u_exit ?_ | refine u_in_n ?_ | refine u_in_r ?_ | refine u_in_same ?_ | refine u_then_e ?_) | ((with_reducible refine u_in_other ?_ ?_); (· exact rfl)) | ((with_reducible refine u_cond_t ?_ ?_); (· exact rfl)) | ((with_reducible refine u_cond_f ?_ ?_); (· exact rfl))))
    exact u_done (by (exact ResL.cons (by exact Res1.tmp rfl) ResL.nil)) (A9, c9) trivial rfl (fun _ h => (h.row_sl (by (repeat (first | exact Take.here _ _ | apply Take.there)))).sub (by (repeat (first | exact Out.nil _ | (refine Out.cons (by (repeat (first | exact Take.here _ _ | apply Take.there))) ?_)))))
end Go.Proofs.YtdigopgncfhiaaaDoor.Two
/- Ice: Thin and Safe by the reference; lists of pairs are the same. -/
namespace Go.Proofs.YtdigopgncfhiaaaDoor
open Go.RowKit
set_option linter.unusedSimpArgs false
set_option linter.unusedVariables false
set_option maxRecDepth 20000
set_option maxHeartbeats 2000000 in
theorem rThin2_any (c : Cov) (A : Option Addr) (ca : Nat) (B : Option Addr) (cb : Nat) (C : Option Addr) (cc : Nat) (pl : List Sli) (P : Option Addr) (cp : Nat) (w : World) (hc : CovAt w c A B C) (hs : Small c) (hp : PlanAt w P pl) (hl : pl.length ≤ 12) (hrl : ∀ s ∈ pl, s.xs.length ≤ 20) :
    Ret Tryd.prog 29 [vCov c A ca B cb C cc, .slice P pl.length cp] w (fun p : Option Addr × Nat => .tuple #[.slice p.1 (thinT c pl).length p.2, .int .i64 (errK c pl)]) (fun p => [.sl encPr 2 p.1 (thinT c pl)]) (fun _ => True) := by
  have h1 := fun W (hb : Below w.heap.size w W) => rcheck2_any c A ca B cb C cc W (hc.below hb) hs
  have h2 := fun W (hb : Below w.heap.size w W) => rvalid2_any c A ca B cb C cc pl P cp W (hc.below hb) (hp.below hb) hs hl hrl
  unfold vCov at h1 h2
  unfold vCov thinT errK
  by_cases h0 : errI c = 0
  · rw [if_pos h0]
    rw [h0] at h1
    have hf := fine_of h0
    cases hpl : planOk c pl
    · rw [hpl] at h2
      unfold cellsCov at h1 h2 ⊢
      (refine ret_enter (n := 19) Tryd.func29 rfl rfl rfl ?_)
      (repeat' (first | ((with_reducible refine isOps ?_); first | refine u_move rfl rfl rfl rfl rfl ?_ | refine u_assign rfl rfl rfl rfl rfl ?_ | (refine x_load rfl rfl rfl rfl rfl ?_; refine ⟨_, rfl, ?_⟩) | (refine u_cmp rfl rfl rfl rfl rfl rfl rfl (fun h => ?_) (fun h => ?_) <;> (dsimp only [cmpP] at h; (try (exfalso; omega)))) | refine u_gives rfl rfl rfl rfl rfl rfl (fun _ _ q => h1 _ q.below) ?_ | refine u_gives rfl rfl rfl rfl rfl rfl (fun _ _ q => h2 _ q.below) ?_ | refine u_not rfl rfl rfl rfl rfl ?_ | (refine u_box rfl rfl rfl rfl rfl rfl (fun b => ?_))) | (with_reducible first | refine u_seq ?_ | refine u_region ?_ | refine u_nil ?_ | refine u_then_n ?_ | refine u_ret ?_ | refine u_skip ?_ | refine u_then_r ?_ | refine u_end ?_) | ((with_reducible refine u_cond_t ?_ ?_); (· exact rfl)) | ((with_reducible refine u_cond_f ?_ ?_); (· exact rfl))))
      all_goals exact u_done (by (exact ResL.cons (by exact Res1.tmp rfl) (ResL.cons (by exact Res1.tmp rfl) ResL.nil))) (none, 0) trivial rfl (fun _ h => (sl_nil h).sub (by (repeat (first | exact Out.nil _ | (refine Out.cons (by (repeat (first | exact Take.here _ _ | apply Take.there))) ?_)))))
    · rw [hpl] at h2
      rw [if_pos rfl, if_pos rfl]
      have hT := fun W (hb : Below w.heap.size w W) => Two.rthin_any c A ca B cb C cc pl P cp false W (hc.below hb) hs hf (hp.below hb) hrl (planOk_iff.1 hpl).1
      simp only [Bool.false_eq_true, if_false] at hT
      unfold vCov at hT
      unfold cellsCov at h1 h2 hT ⊢
      (refine ret_enter (n := 19) Tryd.func29 rfl rfl rfl ?_)
      (repeat' (first | ((with_reducible refine isOps ?_); first | refine u_move rfl rfl rfl rfl rfl ?_ | refine u_assign rfl rfl rfl rfl rfl ?_ | (refine x_load rfl rfl rfl rfl rfl ?_; refine ⟨_, rfl, ?_⟩) | (refine u_cmp rfl rfl rfl rfl rfl rfl rfl (fun h => ?_) (fun h => ?_) <;> (dsimp only [cmpP] at h; (try (exfalso; omega)))) | refine u_gives rfl rfl rfl rfl rfl rfl (fun _ _ q => h1 _ q.below) ?_ | refine u_gives rfl rfl rfl rfl rfl rfl (fun _ _ q => h2 _ q.below) ?_ | refine u_newsl rfl rfl rfl rfl rfl rfl (fun _ _ q => hT _ q.below) (fun A' c' => ?_) | refine u_not rfl rfl rfl rfl rfl ?_ | (refine u_box rfl rfl rfl rfl rfl rfl (fun b => ?_))) | (with_reducible first | refine u_seq ?_ | refine u_region ?_ | refine u_nil ?_ | refine u_then_n ?_ | refine u_ret ?_ | refine u_skip ?_ | refine u_then_r ?_ | refine u_end ?_) | ((with_reducible refine u_cond_t ?_ ?_); (· exact rfl)) | ((with_reducible refine u_cond_f ?_ ?_); (· exact rfl))))
      all_goals exact u_done (by (exact ResL.cons (by exact Res1.tmp rfl) (ResL.cons (by exact Res1.tmp rfl) ResL.nil))) (A', c') trivial rfl (fun _ h => h.sub (by (repeat (first | exact Out.nil _ | (refine Out.cons (by (repeat (first | exact Take.here _ _ | apply Take.there))) ?_)))))
  · rw [if_neg h0]
    unfold cellsCov at h1 h2 ⊢
    generalize errI c = e at *
    rw [if_neg h0]
    (refine ret_enter (n := 19) Tryd.func29 rfl rfl rfl ?_)
    (repeat' (first | ((with_reducible refine isOps ?_); first | refine u_move rfl rfl rfl rfl rfl ?_ | refine u_assign rfl rfl rfl rfl rfl ?_ | (refine x_load rfl rfl rfl rfl rfl ?_; refine ⟨_, rfl, ?_⟩) | (refine u_cmp rfl rfl rfl rfl rfl rfl rfl (fun h => ?_) (fun h => ?_) <;> (dsimp only [cmpP] at h; (try (exfalso; omega)))) | refine u_gives rfl rfl rfl rfl rfl rfl (fun _ _ q => h1 _ q.below) ?_ | refine u_not rfl rfl rfl rfl rfl ?_ | (refine u_box rfl rfl rfl rfl rfl rfl (fun b => ?_))) | (with_reducible first | refine u_seq ?_ | refine u_region ?_ | refine u_nil ?_ | refine u_then_n ?_ | refine u_ret ?_ | refine u_skip ?_ | refine u_then_r ?_ | refine u_end ?_) | ((with_reducible refine u_cond_t ?_ ?_); (· exact rfl)) | ((with_reducible refine u_cond_f ?_ ?_); (· exact rfl))))
    all_goals exact u_done (by (exact ResL.cons (by exact Res1.tmp rfl) (ResL.cons (by exact Res1.tmp rfl) ResL.nil))) (none, 0) trivial rfl (fun _ h => (sl_nil h).sub (by (repeat (first | exact Out.nil _ | (refine Out.cons (by (repeat (first | exact Take.here _ _ | apply Take.there))) ?_)))))
set_option maxHeartbeats 2000000 in
theorem rSafe2_any (c : Cov) (A : Option Addr) (ca : Nat) (B : Option Addr) (cb : Nat) (C : Option Addr) (cc : Nat) (pl : List Sli) (P : Option Addr) (cp : Nat) (w : World) (hc : CovAt w c A B C) (hs : Small c) (hp : PlanAt w P pl) (hl : pl.length ≤ 12) (hrl : ∀ s ∈ pl, s.xs.length ≤ 20) :
    Gv Tryd.prog 31 [vCov c A ca B cb C cc, .slice P pl.length cp] w (.tuple #[.int .u8 (safeT c pl), .int .i64 (errK c pl)]) := by
  have h1 := fun W (hb : Below w.heap.size w W) => rThin2_any c A ca B cb C cc pl P cp W (hc.below hb) hs (hp.below hb) hl hrl
  unfold vCov at h1
  unfold Gv vCov safeT
  by_cases h0 : errK c pl = 0
  · obtain ⟨h00, hpl⟩ := errK_zero h0
    have hf := fine_of h00
    have hT := fun W (hb : Below w.heap.size w W) => Two.rthin_any c A ca B cb C cc pl P cp true W (hc.below hb) hs hf (hp.below hb) hrl (planOk_iff.1 hpl).1
    simp only [if_true] at hT
    unfold vCov at hT
    rw [if_pos h0]
    simp only [thinT, h0, if_true] at h1
    rw [h0]
    generalize thinS c pl worstE = l1 at *
    generalize thinS c pl bestE = l2 at *
    unfold cellsCov at h1 hT ⊢
    (refine ret_enter (n := 28) Tryd.func31 rfl rfl rfl ?_)
    (repeat' (first | ((with_reducible refine isOps ?_); first | refine u_move rfl rfl rfl rfl rfl ?_ | refine u_assign rfl rfl rfl rfl rfl ?_ | (refine x_load rfl rfl rfl rfl rfl ?_; refine ⟨_, rfl, ?_⟩) | (refine u_cmp rfl rfl rfl rfl rfl rfl rfl (fun h => ?_) (fun h => ?_) <;> (dsimp only [cmpP] at h; (try (exfalso; omega)))) | (refine u_call rfl rfl rfl rfl rfl rfl (fun _ _ q => h1 _ q.below) ?_; rintro ⟨A', c'⟩ -; dsimp only [List.cons_append, List.nil_append]) | refine u_newsl rfl rfl rfl rfl rfl rfl (fun _ _ q => hT _ q.below) (fun A' c' => ?_) | refine u_extract rfl rfl rfl rfl rfl rfl ?_ | refine u_len rfl rfl rfl rfl rfl ?_ | (refine u_box rfl rfl rfl rfl rfl rfl (fun b => ?_))) | (with_reducible first | refine u_seq ?_ | refine u_region ?_ | refine u_nil ?_ | refine u_then_n ?_ | refine u_ret ?_ | refine u_skip ?_ | refine u_then_r ?_ | refine u_end ?_ | refine u_block ?_ | refine u_exit ?_ | refine u_in_n ?_ | refine u_in_r ?_ | refine u_in_same ?_ | refine u_then_e ?_) | ((with_reducible refine u_in_other ?_ ?_); (· exact rfl)) | ((with_reducible refine u_cond_t ?_ ?_); (· exact rfl)) | ((with_reducible refine u_cond_f ?_ ?_); (· exact rfl))))
    all_goals first | exact u_done (by (exact ResL.cons (by exact Res1.tmp rfl) (ResL.cons (by exact Res1.tmp rfl) ResL.nil))) () trivial (by rw [if_pos (by omega)]; rfl) (fun _ h => h.sub (by (repeat (first | exact Out.nil _ | (refine Out.cons (by (repeat (first | exact Take.here _ _ | apply Take.there))) ?_))))) | exact u_done (by (exact ResL.cons (by exact Res1.tmp rfl) (ResL.cons (by exact Res1.tmp rfl) ResL.nil))) () trivial (by rw [if_neg (by omega), if_pos (by omega)]; rfl) (fun _ h => h.sub (by (repeat (first | exact Out.nil _ | (refine Out.cons (by (repeat (first | exact Take.here _ _ | apply Take.there))) ?_))))) | exact u_done (by (exact ResL.cons (by exact Res1.tmp rfl) (ResL.cons (by exact Res1.tmp rfl) ResL.nil))) () trivial (by rw [if_neg (by omega), if_neg (by omega)]; rfl) (fun _ h => h.sub (by (repeat (first | exact Out.nil _ | (refine Out.cons (by (repeat (first | exact Take.here _ _ | apply Take.there))) ?_)))))
  · rw [if_neg h0]
    simp only [thinT, if_neg h0] at h1
    unfold cellsCov at h1 ⊢
    generalize errK c pl = e at *
    (refine ret_enter (n := 28) Tryd.func31 rfl rfl rfl ?_)
    (repeat' (first | ((with_reducible refine isOps ?_); first | refine u_move rfl rfl rfl rfl rfl ?_ | refine u_assign rfl rfl rfl rfl rfl ?_ | (refine x_load rfl rfl rfl rfl rfl ?_; refine ⟨_, rfl, ?_⟩) | (refine u_cmp rfl rfl rfl rfl rfl rfl rfl (fun h => ?_) (fun h => ?_) <;> (dsimp only [cmpP] at h; (try (exfalso; omega)))) | (refine u_call rfl rfl rfl rfl rfl rfl (fun _ _ q => h1 _ q.below) ?_; rintro ⟨A', c'⟩ -; dsimp only [List.cons_append, List.nil_append]) | refine u_extract rfl rfl rfl rfl rfl rfl ?_ | refine u_len rfl rfl rfl rfl rfl ?_ | (refine u_box rfl rfl rfl rfl rfl rfl (fun b => ?_))) | (with_reducible first | refine u_seq ?_ | refine u_region ?_ | refine u_nil ?_ | refine u_then_n ?_ | refine u_ret ?_ | refine u_skip ?_ | refine u_then_r ?_ | refine u_end ?_ | refine u_block ?_ | refine u_exit ?_ | refine u_in_n ?_ | refine u_in_r ?_ | refine u_in_same ?_ | refine u_then_e ?_) | ((with_reducible refine u_in_other ?_ ?_); (· exact rfl)) | ((with_reducible refine u_cond_t ?_ ?_); (· exact rfl)) | ((with_reducible refine u_cond_f ?_ ?_); (· exact rfl))))
    all_goals exact u_done (by (exact ResL.cons (by exact Res1.tmp rfl) (ResL.cons (by exact Res1.tmp rfl) ResL.nil))) () trivial rfl (fun _ h => h.sub (by (repeat (first | exact Out.nil _ | (refine Out.cons (by (repeat (first | exact Take.here _ _ | apply Take.there))) ?_)))))
theorem guardPr : Tryd.prog.eqGuardType Tryd.prog.depth 134 = false := by kernel_rfl
theorem e_nePr {w0 : World} {n : Nat} {d : List Deferred} {R : List (Nat × Value)} {H : List Ent} {o : Oper} {x y : Operand} {a b : Int} {T' : TypeId} (hop : o.op = .binOp .neq 134 x y T') (hx : evR R x = some (.agg #[.int .i64 a, .int .i64 b])) (hy : evR R y = some (.agg #[.int .i64 a, .int .i64 b])) : Ev Tryd.prog w0 n d R H o (.bool false) := fun k w q => by
  have e := run_eqIn_pr 9998 a b a b w
  simp only [decide_true, Bool.and_true] at e
  have g : (eqGuard .neq 134 x y (.agg #[.int .i64 a, .int .i64 b]) (.agg #[.int .i64 a, .int .i64 b])).run Tryd.prog w = .ok () w := run_eqGuard_agg _ _ _ _ _ _ _ guardPr
  unfold execOp; rw [hop]
  simp only [Sem.run_bind, q.ev hx, q.ev hy, g, Result.andThen_ok]
  rw [run_neq_struct, e]; rfl
set_option maxHeartbeats 1000000 in
theorem samePairs_yes (l : List (Int × Int)) (A : Option Addr) (ca : Nat) (B : Option Addr) (cb : Nat) (w : World) (ha : SlAt encPr 2 w A l) (hb : SlAt encPr 2 w B l) (hl : l.length ≤ 1000000) :
    Gv Tryd.prog 34 [.slice A l.length ca, .slice B l.length cb] w (.bool true) := by
  unfold Gv
  (refine ret_enter (n := 26) Tryd.func34 rfl rfl rfl ?_)
  (repeat' (first | ((with_reducible refine isOps ?_); first | refine u_move rfl rfl rfl rfl rfl ?_ | refine u_assign rfl rfl rfl rfl rfl ?_ | (refine x_load rfl rfl rfl rfl rfl ?_; refine ⟨_, rfl, ?_⟩) | (refine u_cmp rfl rfl rfl rfl rfl rfl rfl (fun h => ?_) (fun h => ?_) <;> (dsimp only [cmpP] at h; (try (exfalso; omega)))) | refine u_add1 rfl rfl rfl rfl rfl rfl (by omega) ?_ | refine u_add rfl rfl rfl rfl rfl rfl (IntWalk.i64_in _ (by omega)) ?_ | refine u_index rfl rfl rfl rfl rfl rfl rfl (by omega) ?_ | refine u_indexA rfl rfl rfl rfl rfl rfl rfl (by first | decide | omega) ?_ | refine u_len rfl rfl rfl rfl rfl ?_) | (with_reducible first | refine u_seq ?_ | refine u_region ?_ | refine u_nil ?_ | refine u_then_n ?_ | refine u_ret ?_ | refine u_skip ?_ | refine u_then_r ?_ | refine u_end ?_ | refine u_block ?_ | refine u_exit ?_ | refine u_in_n ?_ | refine u_in_r ?_ | refine u_in_same ?_ | refine u_then_e ?_) | ((with_reducible refine u_in_other ?_ ?_); (· exact rfl)) | ((with_reducible refine u_cond_t ?_ ?_); (· exact rfl)) | ((with_reducible refine u_cond_f ?_ ?_); (· exact rfl))))
  refine u_loopP (ι := Nat) [0, 1] rfl (fun i => i ≤ l.length) (fun i => [(5, .int .i64 (i : Int))]) (fun _ => []) (fun i => l.length - i) 0 (Nat.zero_le _) (by (first | exact fun _ _ h => lk_nil h | (repeat (first | exact (fun _ _ h => lk_nil h) | (refine lk_sub rfl ?_))))) (by (repeat (first | exact Out.nil _ | (refine Out.cons (by (repeat (first | exact Take.here _ _ | apply Take.there))) ?_)))) ?_
  rintro i hi
  simp only [zipR, List.cons_append, List.nil_append]
  by_cases hlt : i < l.length
  · obtain ⟨z, hz⟩ : ∃ z, l[i]? = some z := ⟨_, List.getElem?_eq_getElem hlt⟩
    obtain ⟨b1, o1, rfl, hb1, hc1⟩ := ha.at_ hlt
    obtain ⟨b2, o2, rfl, hb2, hc2⟩ := hb.at_ hlt
    have : InS w b1 o1 encPr 2 l := ⟨ha⟩
    have : InS w b2 o2 encPr 2 l := ⟨hb⟩
    have : GetI l i z := ⟨hz⟩
    (repeat' (first | ((with_reducible refine isOps ?_); first | refine u_move rfl rfl rfl rfl rfl ?_ | refine u_assign rfl rfl rfl rfl rfl ?_ | (refine x_load rfl rfl rfl rfl rfl ?_; refine ⟨_, rfl, ?_⟩) | (refine u_cmp rfl rfl rfl rfl rfl rfl rfl (fun h => ?_) (fun h => ?_) <;> (dsimp only [cmpP] at h; (try (exfalso; omega)))) | refine u_add1 rfl rfl rfl rfl rfl rfl (by omega) ?_ | refine u_add rfl rfl rfl rfl rfl rfl (IntWalk.i64_in _ (by omega)) ?_ | refine u_index rfl rfl rfl rfl rfl rfl rfl (by omega) ?_ | refine u_indexA rfl rfl rfl rfl rfl rfl rfl (by first | decide | omega) ?_ | refine u_len rfl rfl rfl rfl rfl ?_) | (with_reducible first | refine u_seq ?_ | refine u_region ?_ | refine u_nil ?_ | refine u_then_n ?_ | refine u_ret ?_ | refine u_skip ?_ | refine u_then_r ?_ | refine u_end ?_ | refine u_block ?_ | refine u_exit ?_ | refine u_in_n ?_ | refine u_in_r ?_ | refine u_in_same ?_ | refine u_then_e ?_) | ((with_reducible refine u_in_other ?_ ?_); (· exact rfl)) | ((with_reducible refine u_cond_t ?_ ?_); (· exact rfl)) | ((with_reducible refine u_cond_f ?_ ?_); (· exact rfl))))
    (refine u_quiet (by kernel_rfl) (by kernel_rfl) (by kernel_rfl) ?_)
    (repeat' (first | ((with_reducible refine isOpsQ ?_); first | refine q_val (e_move rfl rfl) rfl rfl rfl ?_ | refine q_val (e_load' rfl rfl (by exact rfl)) rfl rfl rfl ?_ | refine q_val (e_field rfl rfl) rfl rfl rfl ?_ | refine q_val (e_pick rfl rfl rfl) rfl rfl rfl ?_ | refine q_val (e_assign rfl rfl) rfl rfl rfl ?_ | refine q_not_wanted rfl rfl rfl ?_ | (refine q_cmp rfl rfl rfl rfl rfl rfl rfl (fun h => ?_) (fun h => ?_) <;> (dsimp only [cmpP] at h; (try (exfalso; omega)))) | refine q_val (e_index (I := i) rfl rfl rfl (by omega) (by first | omega | (dsimp only; omega))) rfl rfl rfl ?_ | refine q_val (e_nePr (a := z.1) (b := z.2) rfl rfl rfl) rfl rfl rfl ?_ | refine q_val (e_extract rfl rfl rfl) rfl rfl rfl ?_ | refine q_val (e_not rfl rfl) rfl rfl rfl ?_ | refine q_val (e_add1 rfl rfl rfl (by omega)) rfl rfl rfl ?_ | refine q_val (e_add rfl rfl rfl (IntWalk.i64_in _ (by omega))) rfl rfl rfl ?_ | refine q_val (e_sub rfl rfl rfl (IntWalk.i64_in _ (by omega))) rfl rfl rfl ?_ | refine q_val (e_mul rfl rfl rfl (IntWalk.i64_in _ (by omega))) rfl rfl rfl ?_ | refine q_val (e_index rfl rfl rfl rfl (by omega)) rfl rfl rfl ?_ | refine q_val (e_indexA rfl rfl rfl rfl (by first | decide | omega)) rfl rfl rfl ?_ | refine q_val (e_len rfl rfl) rfl rfl rfl ?_ | refine q_val (e_cap rfl rfl) rfl rfl rfl ?_ | refine q_val (e_nilCheck rfl rfl) rfl rfl rfl ?_ | refine q_val (e_convert rfl rfl (IntWalk.i64_in _ (by omega))) rfl rfl rfl ?_ | refine q_val (e_quo rfl rfl rfl (by omega) (by omega) (IntWalk.i64_in _ (by omega))) rfl rfl rfl ?_ | refine q_val (e_rem rfl rfl rfl (by omega) (by omega)) rfl rfl rfl ?_ | refine q_val (e_min rfl rfl rfl) rfl rfl rfl ?_ | refine q_val (e_max rfl rfl rfl) rfl rfl rfl ?_ | refine q_val (e_build' rfl rfl (by exact rfl)) rfl rfl rfl ?_ | refine q_val (e_makeFunc rfl rfl rfl) rfl rfl rfl ?_) | (with_reducible refine q_nil ?_)))
    (repeat' (first | ((with_reducible refine isOps ?_); first | refine u_move rfl rfl rfl rfl rfl ?_ | refine u_assign rfl rfl rfl rfl rfl ?_ | (refine x_load rfl rfl rfl rfl rfl ?_; refine ⟨_, rfl, ?_⟩) | (refine u_cmp rfl rfl rfl rfl rfl rfl rfl (fun h => ?_) (fun h => ?_) <;> (dsimp only [cmpP] at h; (try (exfalso; omega)))) | refine u_add1 rfl rfl rfl rfl rfl rfl (by omega) ?_ | refine u_add rfl rfl rfl rfl rfl rfl (IntWalk.i64_in _ (by omega)) ?_ | refine u_index rfl rfl rfl rfl rfl rfl rfl (by omega) ?_ | refine u_indexA rfl rfl rfl rfl rfl rfl rfl (by first | decide | omega) ?_ | refine u_len rfl rfl rfl rfl rfl ?_) | (with_reducible first | refine u_seq ?_ | refine u_region ?_ | refine u_nil ?_ | refine u_then_n ?_ | refine u_ret ?_ | refine u_skip ?_ | refine u_then_r ?_ | refine u_end ?_ | refine u_block ?_ | refine u_exit ?_ | refine u_in_n ?_ | refine u_in_r ?_ | refine u_in_same ?_ | refine u_then_e ?_) | ((with_reducible refine u_in_other ?_ ?_); (· exact rfl)) | ((with_reducible refine u_cond_t ?_ ?_); (· exact rfl)) | ((with_reducible refine u_cond_f ?_ ?_); (· exact rfl))))
    exact u_again (i + 1) (by omega) (by omega) (by (first | exact fun _ _ h => lk_nil h | (repeat (first | exact (fun _ _ h => lk_nil h) | (refine lk_sub rfl ?_))))) (by (repeat (first | exact Out.nil _ | (refine Out.cons (by (repeat (first | exact Take.here _ _ | apply Take.there))) ?_))))
  · obtain rfl : i = l.length := by omega
    (repeat' (first | ((with_reducible refine isOps ?_); first | refine u_move rfl rfl rfl rfl rfl ?_ | refine u_assign rfl rfl rfl rfl rfl ?_ | (refine x_load rfl rfl rfl rfl rfl ?_; refine ⟨_, rfl, ?_⟩) | (refine u_cmp rfl rfl rfl rfl rfl rfl rfl (fun h => ?_) (fun h => ?_) <;> (dsimp only [cmpP] at h; (try (exfalso; omega)))) | refine u_add1 rfl rfl rfl rfl rfl rfl (by omega) ?_ | refine u_add rfl rfl rfl rfl rfl rfl (IntWalk.i64_in _ (by omega)) ?_ | refine u_index rfl rfl rfl rfl rfl rfl rfl (by omega) ?_ | refine u_indexA rfl rfl rfl rfl rfl rfl rfl (by first | decide | omega) ?_ | refine u_len rfl rfl rfl rfl rfl ?_) | (with_reducible first | refine u_seq ?_ | refine u_region ?_ | refine u_nil ?_ | refine u_then_n ?_ | refine u_ret ?_ | refine u_skip ?_ | refine u_then_r ?_ | refine u_end ?_ | refine u_block ?_ | refine u_exit ?_ | refine u_in_n ?_ | refine u_in_r ?_ | refine u_in_same ?_ | refine u_then_e ?_) | ((with_reducible refine u_in_other ?_ ?_); (· exact rfl)) | ((with_reducible refine u_cond_t ?_ ?_); (· exact rfl)) | ((with_reducible refine u_cond_f ?_ ?_); (· exact rfl))))
    exact u_done (by (exact ResL.cons (by exact Res1.tmp rfl) ResL.nil)) () trivial rfl (fun _ h => h.sub (by (repeat (first | exact Out.nil _ | (refine Out.cons (by (repeat (first | exact Take.here _ _ | apply Take.there))) ?_)))))
end Go.Proofs.YtdigopgncfhiaaaDoor
