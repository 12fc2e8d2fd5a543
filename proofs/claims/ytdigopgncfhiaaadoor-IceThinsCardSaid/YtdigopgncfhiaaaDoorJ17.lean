/- Ice: great covers and plans; twins. -/
import Derived.Test.YtdigopgncfhiaaaDoorJ14
import Derived.Test.YtdigopgncfhiaaaDoorSameT
namespace Go.Proofs.YtdigopgncfhiaaaDoor
open Go.RowKit
set_option linter.unusedSimpArgs false
set_option linter.unusedVariables false
set_option maxRecDepth 20000
def greatI (c : Cov) (pl : List Sli) : Bool := decide (20 < c.t.length) || (decide (20 < c.beds.length) || (decide (12 < c.hours.length) || (decide (12 < pl.length) || pl.any fun s => decide (20 < s.xs.length))))
theorem greatI_no {c : Cov} {pl : List Sli} (h : greatI c pl = false) : c.t.length ≤ 20 ∧ c.beds.length ≤ 20 ∧ c.hours.length ≤ 12 ∧ pl.length ≤ 12 ∧ ∀ s ∈ pl, s.xs.length ≤ 20 := by
  unfold greatI at h
  simp only [Bool.or_eq_false_iff, decide_eq_false_iff_not, List.any_eq_false, decide_eq_true_eq] at h
  obtain ⟨h1, h2, h3, h4, h5⟩ := h
  exact ⟨by omega, by omega, by omega, by omega, fun s hs => by have := h5 s hs; omega⟩
theorem greatI_yes1 {c : Cov} {pl : List Sli} (h : 20 < c.t.length ∨ 20 < c.beds.length ∨ 12 < c.hours.length ∨ 12 < pl.length) : greatI c pl = true := by
  cases hg : greatI c pl with
  | true => rfl
  | false => have := greatI_no hg; omega
theorem greatI_yes2 {c : Cov} {pl : List Sli} {s : Sli} (hs : s ∈ pl) (h : 20 < s.xs.length) : greatI c pl = true := by
  cases hg : greatI c pl with
  | true => rfl
  | false => have := (greatI_no hg).2.2.2.2 s hs; omega
theorem greatI_not {c : Cov} {pl : List Sli} (h1 : c.t.length ≤ 20) (h2 : c.beds.length ≤ 20) (h3 : c.hours.length ≤ 12) (h4 : pl.length ≤ 12) (h5 : ∀ s ∈ pl, s.xs.length ≤ 20) : greatI c pl = false := by
  unfold greatI
  simp only [Bool.or_eq_false_iff, decide_eq_false_iff_not, List.any_eq_false, decide_eq_true_eq]
  exact ⟨by omega, by omega, by omega, by omega, fun s hs => by have := h5 s hs; omega⟩
set_option maxHeartbeats 2000000 in
theorem rGreat2_any (c : Cov) (A : Option Addr) (ca : Nat) (B : Option Addr) (cb : Nat) (C : Option Addr) (cc : Nat) (pl : List Sli) (P : Option Addr) (cp : Nat) (w : World) (hp : PlanAt w P pl) (hcap : pl.length ≤ cp ∧ cp ≤ maxLen) :
    Gv Tryd.prog 6 [vCov c A ca B cb C cc, .slice P pl.length cp] w (.bool (greatI c pl)) := by
  have hpp := hp.p
  have hgr := fun W => (great_any A c.t.length ca W).gv
  unfold vT at hgr
  unfold Gv vCov cellsCov
  (refine ret_enter (n := 38) Tryd.func6 rfl rfl rfl ?_)
  (repeat' (first | ((with_reducible refine isOps ?_); first | refine u_move rfl rfl rfl rfl rfl ?_ | refine u_assign rfl rfl rfl rfl rfl ?_ | (refine x_load rfl rfl rfl rfl rfl ?_; refine ⟨_, rfl, ?_⟩) | refine u_field rfl rfl rfl rfl rfl ?_ | refine u_pick rfl rfl rfl rfl rfl rfl ?_ | refine u_not_wanted rfl rfl rfl ?_ | refine u_not_wanted0 rfl rfl ?_ | (refine u_cmp rfl rfl rfl rfl rfl rfl rfl (fun h => ?_) (fun h => ?_) <;> (dsimp only [cmpP] at h; (try (exfalso; omega)))) | (refine u_givesB rfl rfl rfl rfl rfl rfl (fun _ _ q => hgr _) (fun h => ?_) (fun h => ?_) <;> (try (exfalso; omega))) | refine u_add1 rfl rfl rfl rfl rfl rfl (by omega) ?_ | refine u_add rfl rfl rfl rfl rfl rfl (IntWalk.i64_in _ (by omega)) ?_ | refine u_index rfl rfl rfl rfl rfl rfl rfl (by omega) ?_ | refine u_indexA rfl rfl rfl rfl rfl rfl rfl (by first | decide | omega) ?_ | refine u_len rfl rfl rfl rfl rfl ?_ | (refine u_box rfl rfl rfl rfl rfl rfl (fun b => ?_))) | (with_reducible first | refine u_seq ?_ | refine u_region ?_ | refine u_nil ?_ | refine u_then_n ?_ | refine u_ret ?_ | refine u_skip ?_ | refine u_then_r ?_ | refine u_end ?_ | refine u_block ?_ | refine u_exit ?_ | refine u_in_n ?_ | refine u_in_r ?_ | refine u_in_same ?_ | refine u_then_e ?_) | ((with_reducible refine u_in_other ?_ ?_); (· exact rfl)) | ((with_reducible refine u_cond_t ?_ ?_); (· exact rfl)) | ((with_reducible refine u_cond_f ?_ ?_); (· exact rfl))))
  all_goals (try simp only [decide_eq_true_eq, decide_eq_false_iff_not] at *)
  all_goals first | exact u_done (by (exact ResL.cons (by exact Res1.tmp rfl) ResL.nil)) () trivial (by rw [greatI_yes1 (by omega)]; rfl) (fun _ h => h.sub (by (repeat (first | exact Out.nil _ | (refine Out.cons (by (repeat (first | exact Take.here _ _ | apply Take.there))) ?_))))) | skip
  refine u_loopP (ι := Nat) [1] rfl (fun i => i ≤ pl.length ∧ ∀ j (z : Sli), j < i → pl[j]? = some z → z.xs.length ≤ 20) (fun i => [(5, .int .i64 (i : Int))]) (fun _ => []) (fun i => pl.length - i) 0 ⟨Nat.zero_le _, fun j z h => by omega⟩ (by (first | exact fun _ _ h => lk_nil h | (repeat (first | exact (fun _ _ h => lk_nil h) | (refine lk_sub rfl ?_))))) (by (repeat (first | exact Out.nil _ | (refine Out.cons (by (repeat (first | exact Take.here _ _ | apply Take.there))) ?_)))) ?_
  rintro i ⟨hi, hall⟩
  simp only [zipR, List.cons_append, List.nil_append]
  by_cases hlt : i < pl.length
  · obtain ⟨s, hsi⟩ : ∃ s, pl[i]? = some s := ⟨_, List.getElem?_eq_getElem hlt⟩
    have hsm := List.mem_of_getElem? hsi
    obtain ⟨bb, o, rfl, hblt, hc⟩ := hpp.at_ hlt
    have : InS w bb o encSli 1 pl := ⟨hpp⟩
    have : GetI pl i s := ⟨hsi⟩
    have hy := fun h => greatI_yes2 (c := c) hsm h
    obtain ⟨sA, xs, sc⟩ := s
    simp only at hy
    (repeat' (first | ((with_reducible refine isOps ?_); first | refine u_move rfl rfl rfl rfl rfl ?_ | refine u_assign rfl rfl rfl rfl rfl ?_ | (refine x_load rfl rfl rfl rfl rfl ?_; refine ⟨_, rfl, ?_⟩) | refine u_field rfl rfl rfl rfl rfl ?_ | refine u_pick rfl rfl rfl rfl rfl rfl ?_ | refine u_not_wanted rfl rfl rfl ?_ | refine u_not_wanted0 rfl rfl ?_ | (refine u_cmp rfl rfl rfl rfl rfl rfl rfl (fun h => ?_) (fun h => ?_) <;> (dsimp only [cmpP] at h; (try (exfalso; omega)))) | refine u_add1 rfl rfl rfl rfl rfl rfl (by omega) ?_ | refine u_add rfl rfl rfl rfl rfl rfl (IntWalk.i64_in _ (by omega)) ?_ | refine u_index rfl rfl rfl rfl rfl rfl rfl (by omega) ?_ | refine u_indexA rfl rfl rfl rfl rfl rfl rfl (by first | decide | omega) ?_ | refine u_len rfl rfl rfl rfl rfl ?_ | (refine u_box rfl rfl rfl rfl rfl rfl (fun b => ?_))) | (with_reducible first | refine u_seq ?_ | refine u_region ?_ | refine u_nil ?_ | refine u_then_n ?_ | refine u_ret ?_ | refine u_skip ?_ | refine u_then_r ?_ | refine u_end ?_ | refine u_block ?_ | refine u_exit ?_ | refine u_in_n ?_ | refine u_in_r ?_ | refine u_in_same ?_ | refine u_then_e ?_) | ((with_reducible refine u_in_other ?_ ?_); (· exact rfl)) | ((with_reducible refine u_cond_t ?_ ?_); (· exact rfl)) | ((with_reducible refine u_cond_f ?_ ?_); (· exact rfl))))
    · exact u_done (by (exact ResL.cons (by exact Res1.tmp rfl) ResL.nil)) () trivial (by rw [hy (by omega)]; rfl) (fun _ h => h.sub (by (repeat (first | exact Out.nil _ | (refine Out.cons (by (repeat (first | exact Take.here _ _ | apply Take.there))) ?_)))))
    · exact u_again (i + 1) ⟨by omega, fun j z hj hz => by
        by_cases e : j = i
        · subst e; rw [hsi] at hz; cases hz; simp only; omega
        · exact hall j z (by omega) hz⟩ (by omega) (by (first | exact fun _ _ h => lk_nil h | (repeat (first | exact (fun _ _ h => lk_nil h) | (refine lk_sub rfl ?_))))) (by (repeat (first | exact Out.nil _ | (refine Out.cons (by (repeat (first | exact Take.here _ _ | apply Take.there))) ?_))))
  · obtain rfl : i = pl.length := by omega
    have hg : greatI c pl = false := greatI_not (by omega) (by omega) (by omega) (by omega) (fun s hs => by
      obtain ⟨j, hj⟩ := List.mem_iff_getElem?.1 hs
      exact hall j s (List.getElem?_eq_some_iff.1 hj).1 hj)
    (repeat' (first | ((with_reducible refine isOps ?_); first | refine u_move rfl rfl rfl rfl rfl ?_ | refine u_assign rfl rfl rfl rfl rfl ?_ | (refine x_load rfl rfl rfl rfl rfl ?_; refine ⟨_, rfl, ?_⟩) | refine u_field rfl rfl rfl rfl rfl ?_ | refine u_pick rfl rfl rfl rfl rfl rfl ?_ | refine u_not_wanted rfl rfl rfl ?_ | refine u_not_wanted0 rfl rfl ?_ | (refine u_cmp rfl rfl rfl rfl rfl rfl rfl (fun h => ?_) (fun h => ?_) <;> (dsimp only [cmpP] at h; (try (exfalso; omega)))) | refine u_add1 rfl rfl rfl rfl rfl rfl (by omega) ?_ | refine u_add rfl rfl rfl rfl rfl rfl (IntWalk.i64_in _ (by omega)) ?_ | refine u_index rfl rfl rfl rfl rfl rfl rfl (by omega) ?_ | refine u_indexA rfl rfl rfl rfl rfl rfl rfl (by first | decide | omega) ?_ | refine u_len rfl rfl rfl rfl rfl ?_ | (refine u_box rfl rfl rfl rfl rfl rfl (fun b => ?_))) | (with_reducible first | refine u_seq ?_ | refine u_region ?_ | refine u_nil ?_ | refine u_then_n ?_ | refine u_ret ?_ | refine u_skip ?_ | refine u_then_r ?_ | refine u_end ?_ | refine u_block ?_ | refine u_exit ?_ | refine u_in_n ?_ | refine u_in_r ?_ | refine u_in_same ?_ | refine u_then_e ?_) | ((with_reducible refine u_in_other ?_ ?_); (· exact rfl)) | ((with_reducible refine u_cond_t ?_ ?_); (· exact rfl)) | ((with_reducible refine u_cond_f ?_ ?_); (· exact rfl))))
    exact u_done (by (exact ResL.cons (by exact Res1.tmp rfl) ResL.nil)) () trivial (by rw [hg]; rfl) (fun _ h => h.sub (by (repeat (first | exact Out.nil _ | (refine Out.cons (by (repeat (first | exact Take.here _ _ | apply Take.there))) ?_)))))

/-! ### twins -/
set_option maxHeartbeats 2000000 in
theorem twin2_any (c : Cov) (A : Option Addr) (ca : Nat) (B : Option Addr) (cb : Nat) (C : Option Addr) (cc : Nat) (w : World) (h : CovAt w c A B C) (h1 : c.t.length ≤ 1000) (h2 : c.beds.length ≤ 1000) (h3 : c.hours.length ≤ 1000) :
    Ret Tryd.prog 7 [vCov c A ca B cb C cc] w (fun p : (Option Addr × Nat) × (Option Addr × Nat) × (Option Addr × Nat) => vCov c p.1.1 p.1.2 p.2.1.1 p.2.1.2 p.2.2.1 p.2.2.2) (fun p => [.sl encSt 9 p.1.1 c.t, .sl encBed 3 p.2.1.1 c.beds, .sl encHour 5 p.2.2.1 c.hours]) (fun _ => True) := by
  have hb := h.b; have hh := h.h
  have hT := fun W (hW : Below w.heap.size w W) => twin_any c.t A ca W (h.t.below hW) h1
  unfold vT at hT
  unfold vCov cellsCov
  (refine ret_enter (n := 18) Tryd.func7 rfl rfl rfl ?_)
  (repeat' (first | ((with_reducible refine isOps ?_); first | (refine x_load rfl rfl rfl rfl rfl ?_; refine ⟨_, rfl, ?_⟩) | refine u_field rfl rfl rfl rfl rfl ?_ | refine u_newsl rfl rfl rfl rfl rfl rfl (fun _ _ q => hT _ q.below) (fun A' c' => ?_) | (refine u_buildNil encBed (e := 117) rfl rfl rfl rfl (fun b => ?_)) | (refine u_append (enc := encBed) c.beds rfl rfl rfl rfl rfl (by (repeat (first | exact Take.here _ _ | apply Take.there))) rfl rfl (src_in hb) (by refine ⟨?_, by decide⟩; (try simp only [List.length_append, List.length_cons, List.length_nil]); omega) (fun A' c' => ?_)) | (refine u_buildNil encHour (e := 120) rfl rfl rfl rfl (fun b => ?_)) | (refine u_append (enc := encHour) c.hours rfl rfl rfl rfl rfl (by (repeat (first | exact Take.here _ _ | apply Take.there))) rfl rfl (src_in hh) (by refine ⟨?_, by decide⟩; (try simp only [List.length_append, List.length_cons, List.length_nil]); omega) (fun A' c' => ?_)) | (refine x_store rfl rfl rfl rfl rfl ?_; refine And.intro rfl (And.intro (by first | decide | exact Nat.le_of_ble_eq_true rfl | (simp; omega)) ⟨_, rfl, ?_⟩)) | (refine u_alloc rfl rfl rfl rfl (fun b => ?_)) | (refine u_box rfl rfl rfl rfl rfl rfl (fun b => ?_)) | (refine x_buildSlice rfl rfl rfl rfl rfl ?_; refine ⟨rfl, _, rfl, fun b => ?_⟩)) | (with_reducible first | refine u_seq ?_ | refine u_region ?_ | refine u_nil ?_ | refine u_then_n ?_ | refine u_ret ?_ | refine u_skip ?_ | refine u_then_r ?_ | refine u_end ?_)))
  rename_i A1 c1 bb A2 c2
  simp only [List.nil_append]
  exact u_done (by (exact ResL.cons (by exact res1c rfl (by exact rfl)) ResL.nil)) ((A1, c1), (A2, c2), (A', c')) trivial rfl (fun _ h => ((h.row_sl (enc := encHour) (by (repeat (first | exact Take.here _ _ | apply Take.there)))).row_sl (enc := encBed) (by (repeat (first | exact Take.here _ _ | apply Take.there)))).sub (by (repeat (first | exact Out.nil _ | (refine Out.cons (by (repeat (first | exact Take.here _ _ | apply Take.there))) ?_)))))
end Go.Proofs.YtdigopgncfhiaaaDoor
