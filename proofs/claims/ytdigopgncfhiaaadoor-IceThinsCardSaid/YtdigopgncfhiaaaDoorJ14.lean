/- Ice: an hour with other runs; how many sleds it bears. -/
import Derived.Test.YtdigopgncfhiaaaDoorJ11
import Derived.Test.YtdigopgncfhiaaaDoorU8
namespace Go.Proofs.YtdigopgncfhiaaaDoor
open Go.RowKit
set_option linter.unusedSimpArgs false
set_option linter.unusedVariables false
set_option maxRecDepth 20000
theorem elem_ho : Elem Tryd.prog 26 120 5 40 (.agg #[.int .i64 0, .int .i64 0, .int .i64 0, .int .i64 0, .bool false]) :=
  ⟨by rfl, by exact ⟨_, rfl, rfl, rfl, rfl⟩, by decide, by decide⟩
instance elI_ho : ElI Tryd.prog 26 120 5 40 := ⟨⟨_, elem_ho⟩⟩
theorem elem_be : Elem Tryd.prog 25 117 3 24 (.agg #[.int .i64 0, .int .i64 0, .int .i64 0]) :=
  ⟨by rfl, by exact ⟨_, rfl, rfl, rfl, rfl⟩, by decide, by decide⟩
instance elI_be : ElI Tryd.prog 25 117 3 24 := ⟨⟨_, elem_be⟩⟩
theorem clone_ho (t : List Hour) (A : Option Addr) (c : Nat) (w : World) (ht : SlAt encHour 5 w A t) (h0 : 0 < t.length) (hl : t.length ≤ 1000) :
    Ret Tryd.prog 58 [.slice A t.length c] w (fun p : Option Addr × Nat => .slice p.1 t.length p.2) (fun p => [.row encHour 5 120 (.slice p.1 t.length p.2) t]) (fun _ => True) := by
  obtain ⟨bb, o, rfl, _⟩ := ht.at_ h0
  (refine ret_enter (n := 8) Tryd.func58 rfl rfl rfl ?_)
  (repeat' (first | ((with_reducible refine isOps ?_); first | refine u_move rfl rfl rfl rfl rfl ?_ | refine u_assign rfl rfl rfl rfl rfl ?_ | (refine u_cmp rfl rfl rfl rfl rfl rfl rfl (fun h => ?_) (fun h => ?_) <;> (dsimp only [cmpP] at h; (try (exfalso; omega)))) | refine u_eqlNil rfl rfl rfl rfl rfl rfl ?_ | (refine u_buildNil encHour rfl rfl rfl rfl (fun b => ?_)) | (refine u_append (enc := encHour) t rfl rfl rfl rfl rfl (by (repeat (first | exact Take.here _ _ | apply Take.there))) rfl rfl (src_in ht) (by refine ⟨?_, by decide⟩; (try simp only [List.length_append, List.length_cons, List.length_nil]); omega) (fun A' c' => ?_)) | (refine x_buildSlice rfl rfl rfl rfl rfl ?_; refine ⟨rfl, _, rfl, fun b => ?_⟩)) | (with_reducible first | refine u_seq ?_ | refine u_region ?_ | refine u_nil ?_ | refine u_then_n ?_ | refine u_ret ?_ | refine u_skip ?_ | refine u_then_r ?_ | refine u_end ?_) | ((with_reducible refine u_cond_t ?_ ?_); (· exact rfl)) | ((with_reducible refine u_cond_f ?_ ?_); (· exact rfl))))
  exact u_done (by (exact ResL.cons (by exact Res1.tmp rfl) ResL.nil)) (A', c') trivial rfl (fun _ h => h.sub (by (repeat (first | exact Out.nil _ | (refine Out.cons (by (repeat (first | exact Take.here _ _ | apply Take.there))) ?_)))))

set_option maxHeartbeats 1000000 in
theorem cp_con_idx (l : List (Int × Int)) (A : Option Addr) (cap : Nat) (kf : FuncId) [CallI Tryd.prog kf] (cs : Array Value) (p : (Int × Int) → Bool) (w : World) (hk : SlAt encPr 2 w A l) (hl : l.length ≤ 1000000)
    (hp : ∀ x W, x ∈ l → Below w.heap.size w W → Gv Tryd.prog kf ([(fun p : Int × Int => Value.agg (encPr p).toArray) x] ++ cs.toList) W (.bool (p x))) :
    Gv Tryd.prog 111 [.slice A l.length cap, .func (.func kf) #[] cs] w (.int .i64 (findI p l)) := by
  unfold Gv
  (refine ret_enter (n := 19) Tryd.func111 rfl rfl rfl ?_)
  (repeat' (first | ((with_reducible refine isOps ?_); first | refine u_move rfl rfl rfl rfl rfl ?_ | refine u_assign rfl rfl rfl rfl rfl ?_ | (refine x_load rfl rfl rfl rfl rfl ?_; refine ⟨_, rfl, ?_⟩) | (refine u_cmp rfl rfl rfl rfl rfl rfl rfl (fun h => ?_) (fun h => ?_) <;> (dsimp only [cmpP] at h; (try (exfalso; omega)))) | refine u_add1 rfl rfl rfl rfl rfl rfl (by omega) ?_ | refine u_add rfl rfl rfl rfl rfl rfl (IntWalk.i64_in _ (by omega)) ?_ | refine u_index rfl rfl rfl rfl rfl rfl rfl (by omega) ?_ | refine u_indexA rfl rfl rfl rfl rfl rfl rfl (by first | decide | omega) ?_ | refine u_len rfl rfl rfl rfl rfl ?_) | (with_reducible first | refine u_seq ?_ | refine u_region ?_ | refine u_nil ?_ | refine u_then_n ?_ | refine u_ret ?_ | refine u_skip ?_ | refine u_then_r ?_ | refine u_end ?_ | refine u_block ?_ | refine u_exit ?_ | refine u_in_n ?_ | refine u_in_r ?_ | refine u_in_same ?_ | refine u_then_e ?_) | ((with_reducible refine u_in_other ?_ ?_); (· exact rfl)) | ((with_reducible refine u_cond_t ?_ ?_); (· exact rfl)) | ((with_reducible refine u_cond_f ?_ ?_); (· exact rfl))))
  refine u_loopP (ι := Nat) [0, 1, 7] rfl (fun i => i ≤ l.length ∧ ∀ j y, j < i → l[j]? = some y → p y = false) (fun i => [(8, .int .i64 (i : Int))]) (fun _ => []) (fun i => l.length - i) 0 ⟨Nat.zero_le _, fun j y h => by omega⟩ (by (first | exact fun _ _ h => lk_nil h | (repeat (first | exact (fun _ _ h => lk_nil h) | (refine lk_sub rfl ?_))))) (by (repeat (first | exact Out.nil _ | (refine Out.cons (by (repeat (first | exact Take.here _ _ | apply Take.there))) ?_)))) ?_
  rintro i ⟨hi, hb⟩
  simp only [zipR, List.cons_append, List.nil_append]
  by_cases hlt : i < l.length
  · have hx : l[i]? = some l[i] := by simp [hlt]
    obtain ⟨b, o, rfl, hblt, hc⟩ := hk.at_ hlt
    have : InS w b o encPr 2 l := ⟨hk⟩
    have : GetI l i l[i] := ⟨hx⟩
    (repeat' (first | ((with_reducible refine isOps ?_); first | refine u_move rfl rfl rfl rfl rfl ?_ | refine u_assign rfl rfl rfl rfl rfl ?_ | (refine x_load rfl rfl rfl rfl rfl ?_; refine ⟨_, rfl, ?_⟩) | (refine u_cmp rfl rfl rfl rfl rfl rfl rfl (fun h => ?_) (fun h => ?_) <;> (dsimp only [cmpP] at h; (try (exfalso; omega)))) | (refine u_givesB rfl rfl rfl rfl rfl rfl (fun _ _ q => hp _ _ (List.getElem_mem hlt) q.below) (fun h => ?_) (fun h => ?_) <;> (try (exfalso; omega))) | refine u_add1 rfl rfl rfl rfl rfl rfl (by omega) ?_ | refine u_add rfl rfl rfl rfl rfl rfl (IntWalk.i64_in _ (by omega)) ?_ | refine u_index rfl rfl rfl rfl rfl rfl rfl (by omega) ?_ | refine u_indexA rfl rfl rfl rfl rfl rfl rfl (by first | decide | omega) ?_ | refine u_len rfl rfl rfl rfl rfl ?_) | (with_reducible first | refine u_seq ?_ | refine u_region ?_ | refine u_nil ?_ | refine u_then_n ?_ | refine u_ret ?_ | refine u_skip ?_ | refine u_then_r ?_ | refine u_end ?_ | refine u_block ?_ | refine u_exit ?_ | refine u_in_n ?_ | refine u_in_r ?_ | refine u_in_same ?_ | refine u_then_e ?_) | ((with_reducible refine u_in_other ?_ ?_); (· exact rfl)) | ((with_reducible refine u_cond_t ?_ ?_); (· exact rfl)) | ((with_reducible refine u_cond_f ?_ ?_); (· exact rfl))))
    · have e1 := findI_at hlt h hb
      exact u_done (by (exact ResL.cons (by exact Res1.tmp rfl) ResL.nil)) () trivial (by rw [e1]; rfl) (fun _ h => h.sub (by (repeat (first | exact Out.nil _ | (refine Out.cons (by (repeat (first | exact Take.here _ _ | apply Take.there))) ?_)))))
    · refine u_again (i + 1) ⟨by omega, fun j y hj hy => ?_⟩ (by omega) (by (first | exact fun _ _ h => lk_nil h | (repeat (first | exact (fun _ _ h => lk_nil h) | (refine lk_sub rfl ?_))))) (by (repeat (first | exact Out.nil _ | (refine Out.cons (by (repeat (first | exact Take.here _ _ | apply Take.there))) ?_))))
      by_cases e : j = i
      · subst e; rw [hx] at hy; cases hy; exact h
      · exact hb j y (by omega) hy
  · obtain rfl : i = l.length := by omega
    have e1 := findI_none (p := p) (l := l) (fun y hy => by
      obtain ⟨j, hj⟩ := List.mem_iff_getElem?.1 hy
      exact hb j y (List.getElem?_eq_some_iff.1 hj).1 hj)
    (repeat' (first | ((with_reducible refine isOps ?_); first | refine u_move rfl rfl rfl rfl rfl ?_ | refine u_assign rfl rfl rfl rfl rfl ?_ | (refine x_load rfl rfl rfl rfl rfl ?_; refine ⟨_, rfl, ?_⟩) | (refine u_cmp rfl rfl rfl rfl rfl rfl rfl (fun h => ?_) (fun h => ?_) <;> (dsimp only [cmpP] at h; (try (exfalso; omega)))) | refine u_add1 rfl rfl rfl rfl rfl rfl (by omega) ?_ | refine u_add rfl rfl rfl rfl rfl rfl (IntWalk.i64_in _ (by omega)) ?_ | refine u_index rfl rfl rfl rfl rfl rfl rfl (by omega) ?_ | refine u_indexA rfl rfl rfl rfl rfl rfl rfl (by first | decide | omega) ?_ | refine u_len rfl rfl rfl rfl rfl ?_) | (with_reducible first | refine u_seq ?_ | refine u_region ?_ | refine u_nil ?_ | refine u_then_n ?_ | refine u_ret ?_ | refine u_skip ?_ | refine u_then_r ?_ | refine u_end ?_ | refine u_block ?_ | refine u_exit ?_ | refine u_in_n ?_ | refine u_in_r ?_ | refine u_in_same ?_ | refine u_then_e ?_) | ((with_reducible refine u_in_other ?_ ?_); (· exact rfl)) | ((with_reducible refine u_cond_t ?_ ?_); (· exact rfl)) | ((with_reducible refine u_cond_f ?_ ?_); (· exact rfl))))
    exact u_done (by (exact ResL.cons (by exact Res1.tmp rfl) ResL.nil)) () trivial (by rw [e1]; rfl) (fun _ h => h.sub (by (repeat (first | exact Out.nil _ | (refine Out.cons (by (repeat (first | exact Take.here _ _ | apply Take.there))) ?_)))))
theorem cp_con (l : List (Int × Int)) (A : Option Addr) (cap : Nat) (kf : FuncId) [CallI Tryd.prog kf] (cs : Array Value) (p : (Int × Int) → Bool) (w : World) (hk : SlAt encPr 2 w A l) (hl : l.length ≤ 1000000)
    (hp : ∀ x W, x ∈ l → Below w.heap.size w W → Gv Tryd.prog kf ([(fun p : Int × Int => Value.agg (encPr p).toArray) x] ++ cs.toList) W (.bool (p x))) :
    Gv Tryd.prog 72 [.slice A l.length cap, .func (.func kf) #[] cs] w (.bool (l.any p)) := by
  unfold Gv
  have hf := findI_neg p l
  (refine ret_enter (n := 9) Tryd.func72 rfl rfl rfl ?_)
  (repeat' (first | ((with_reducible refine isOps ?_); first | refine u_move rfl rfl rfl rfl rfl ?_ | refine u_assign rfl rfl rfl rfl rfl ?_ | (refine u_cmp rfl rfl rfl rfl rfl rfl rfl (fun h => ?_) (fun h => ?_) <;> (dsimp only [cmpP] at h; (try (exfalso; omega)))) | refine u_gives rfl rfl rfl rfl rfl rfl (fun _ _ q => cp_con_idx l A cap kf cs p _ (hk.below q.below) hl (fun x W hx hW => hp x W hx (q.below.trans (hW.mono q.base)))) ?_) | (with_reducible first | refine u_seq ?_ | refine u_region ?_ | refine u_nil ?_ | refine u_then_n ?_ | refine u_ret ?_ | refine u_skip ?_ | refine u_then_r ?_ | refine u_end ?_)))
  all_goals exact u_done (by (exact ResL.cons (by exact Res1.tmp rfl) ResL.nil)) () trivial (by simp only [resV]; rw [← hf]; simp; omega) (fun _ h => h.sub (by (repeat (first | exact Out.nil _ | (refine Out.cons (by (repeat (first | exact Take.here _ _ | apply Take.there))) ?_)))))

/-- a cover whose hour J has n runs -/
def runsU (n : Int) (u : Hour) : Hour := { u with runs := n }
def withRuns (c : Cov) (J : Nat) (n : Int) : Cov := { c with hours := c.hours.set J (runsU n (c.hours.getD J default)) }
theorem withRuns_len {c : Cov} {J : Nat} {n : Int} : (withRuns c J n).hours.length = c.hours.length := by simp [withRuns]
theorem withRuns_small {c : Cov} {J : Nat} {n : Int} (h : Small c) : Small (withRuns c J n) := ⟨h.fit, h.t, h.b, by rw [withRuns_len]; exact h.h⟩
theorem withRuns_fine {c : Cov} {J : Nat} {n : Int} (hJ : J < c.hours.length) (h0 : 0 ≤ n) (h1 : n ≤ 60) (h : Fine c) : Fine (withRuns c J n) :=
  ⟨h.bed, fun u hu => by
    rcases List.mem_or_eq_of_mem_set hu with hu | rfl
    · exact h.hour u hu
    · have := h.hour (c.hours.getD J default) (by rw [getD_of (List.getElem?_eq_getElem hJ)]; exact List.getElem_mem hJ)
      simp only [hourOk, Bool.and_eq_true, inB_iff] at this ⊢
      exact ⟨⟨this.1.1, by simp only [runsU]; omega⟩, this.2⟩, h.wear, h.layer, h.rate, h.limit, h.base, h.beds, by rw [withRuns_len]; exact h.hours⟩
/-- whether the hour J bears n sleds -/
def bearsB (c : Cov) (pl : List Sli) (J : Nat) (n : Int) : Bool := !(thinS (withRuns c J n) pl worstE).any fun p => decide (p.1 = (J : Int))
theorem bears1_any (g J : Nat) (p : Int × Int) (w : World) (hg : InC w g 0 [.int .i64 (J : Int)]) : Gv Tryd.prog 75 [.agg (encPr p).toArray, .pointer (some ⟨g, 0, none⟩)] w (.bool (decide (p.1 = (J : Int)))) := by
  unfold Gv encPr
  (refine ret_enter (n := 8) Tryd.func75 rfl rfl rfl ?_)
  (repeat' (first | ((with_reducible refine isOps ?_); first | refine u_assign rfl rfl rfl rfl rfl ?_ | (refine x_load rfl rfl rfl rfl rfl ?_; refine ⟨_, rfl, ?_⟩) | (refine u_cmp rfl rfl rfl rfl rfl rfl rfl (fun h => ?_) (fun h => ?_) <;> (dsimp only [cmpP] at h; (try (exfalso; omega)))) | refine u_index rfl rfl rfl rfl rfl rfl rfl (by omega) ?_ | refine u_indexA rfl rfl rfl rfl rfl rfl rfl (by first | decide | omega) ?_ | (refine u_box rfl rfl rfl rfl rfl rfl (fun b => ?_))) | (with_reducible first | refine u_seq ?_ | refine u_region ?_ | refine u_nil ?_ | refine u_then_n ?_ | refine u_ret ?_ | refine u_skip ?_ | refine u_then_r ?_ | refine u_end ?_)))
  all_goals exact u_done (by (exact ResL.cons (by exact Res1.tmp rfl) ResL.nil)) () trivial (by simp [resV]; omega) (fun _ h => h.sub (by (repeat (first | exact Out.nil _ | (refine Out.cons (by (repeat (first | exact Take.here _ _ | apply Take.there))) ?_)))))
set_option maxHeartbeats 4000000 in
theorem bears_any (c : Cov) (A : Option Addr) (ca : Nat) (B : Option Addr) (cb : Nat) (C : Option Addr) (cc g gp gh gr J n : Nat) (pl : List Sli) (P : Option Addr) (cp : Nat) (w : World) (hr : InC w g 0 (cellsCov c A ca B cb C cc)) (hG : InC w 0 0 limC) (h : CovAt w c A B C) (hs : Small c) (hf : Fine c) (hp : PlanAt w P pl) (hrl : ∀ s ∈ pl, s.xs.length ≤ 20) (hpl : pl.length = c.hours.length)
    (hgr : InC w gr 0 [.pointer (some ⟨g, 0, none⟩)]) (hgh : InC w gh 0 [.int .i64 (J : Int)]) (hgp : InC w gp 0 [.slice P pl.length cp]) (hJ : J < c.hours.length) (hn : n ≤ 60) :
    Gv Tryd.prog 71 [.int .i64 (n : Int), .pointer (some ⟨gr, 0, none⟩), .pointer (some ⟨gh, 0, none⟩), .pointer (some ⟨gp, 0, none⟩)] w (.bool (bearsB c pl J n)) := by
  have h4 := hs.b; have h5 := hs.h
  have hh := h.h
  have hT := fun W C' cc' g' (hW : Below w.heap.size w W) (hx : InC W g' 0 (cellsCov (withRuns c J n) A ca B cb C' cc')) (hC : SlAt encHour 5 W C' (withRuns c J n).hours) => ithin_any (en := worstE) (enF := 74) worst_any (withRuns c J n) A ca B cb C' cc' g' pl P cp W hx (hG.below hW) ⟨h.t.below hW, h.b.below hW, hC⟩ (withRuns_small hs) (withRuns_fine hJ (by omega) (by omega) hf) (hp.below hW) hrl (by rw [withRuns_len]; exact hpl)
  obtain ⟨u, hu⟩ : ∃ u, c.hours[J]? = some u := ⟨_, List.getElem?_eq_getElem hJ⟩
  have hl := thinS_len (c := withRuns c J n) (pl := pl) (en := worstE) h4 (by rw [withRuns_len]; exact h5)
  unfold bearsB
  have hcp := fun A2 c2 W (hs2 : SlAt encPr 2 W A2 (thinS (withRuns c J n) pl worstE)) (hW : Below w.heap.size w W) => cp_con (thinS (withRuns c J n) pl worstE) A2 c2 75 #[.pointer (some ⟨gh, 0, none⟩)] (fun p => decide (p.1 = (J : Int))) W hs2 (by omega) (fun x W2 _ hW2 => bears1_any gh J x W2 (hgh.below (hW.trans (hW2.mono hW.size))))
  generalize hth : thinS (withRuns c J n) pl worstE = th at *
  unfold cellsCov at *
  rw [withRuns_len] at hT
  unfold Gv
  (refine ret_enter (n := 38) Tryd.func71 rfl rfl rfl ?_)
  (repeat' (first | ((with_reducible refine isOps ?_); first | refine u_move rfl rfl rfl rfl rfl ?_ | refine u_assign rfl rfl rfl rfl rfl ?_ | (refine x_load rfl rfl rfl rfl rfl ?_; refine ⟨_, rfl, ?_⟩) | refine u_field rfl rfl rfl rfl rfl ?_ | (refine u_call rfl rfl rfl rfl rfl rfl (fun _ _ q => clone_ho c.hours C cc _ (hh.below q.below) (by omega) (by omega)) ?_; rintro ⟨A', c'⟩ -; dsimp only [List.cons_append, List.nil_append]; refine u_row_arr (Take.here _ _) (by omega) ?_; rintro g' rfl) | refine u_not rfl rfl rfl rfl rfl ?_ | refine u_index rfl rfl rfl rfl rfl rfl rfl (by omega) ?_ | refine u_indexA rfl rfl rfl rfl rfl rfl rfl (by first | decide | omega) ?_ | (refine x_store rfl rfl rfl rfl rfl ?_; refine And.intro rfl (And.intro (by first | decide | exact Nat.le_of_ble_eq_true rfl | (simp; omega)) ⟨_, rfl, ?_⟩)) | (refine u_box rfl rfl rfl rfl rfl rfl (fun b => ?_)) | (refine x_build rfl rfl rfl rfl rfl ?_; refine ⟨_, rfl, ?_⟩) | refine u_nilCheck rfl rfl rfl rfl rfl ?_ | refine u_makeFunc rfl rfl rfl rfl rfl rfl ?_) | (with_reducible first | refine u_seq ?_ | refine u_region ?_ | refine u_nil ?_ | refine u_then_n ?_ | refine u_ret ?_ | refine u_skip ?_ | refine u_then_r ?_ | refine u_end ?_)))
  have hset : (withRuns c J n).hours = c.hours.set J (runsU n u) := by simp only [withRuns, getD_of hu]
  rw [hset] at hT
  have : GetI c.hours J u := ⟨hu⟩
  (refine u_chain (by kernel_rfl) [[], [true], [true, true], [true, true, true], [true, true, true, true], [false, false, false, false, false], [false, false, false, false, false, false], [true, true, true, true, true, true, true], [true, true, true, true, true, true, true, true], [true, true, true, true, true, true, true, true, true]] (by kernel_rfl) (by kernel_rfl) (by kernel_rfl) ?_)
  (repeat' (first | (((with_reducible refine c_go ?_ ?_); (· exact rfl); refine ⟨_, fun G => (by (try simp only [fltT, entsT, List.nil_append, List.cons_append]); rfl), ?_⟩); first | refine c_val _ (fun _ => e_move rfl rfl) (fun _ => rfl) rfl (by first | exact fun _ _ _ => rfl | (intro G G' h; simp (decide := true) only [h])) ?_ | refine c_val _ (fun _ => e_load' rfl rfl (by exact rfl)) (fun _ => rfl) rfl (by first | exact fun _ _ _ => rfl | (intro G G' h; simp (decide := true) only [h])) ?_ | (refine c_isField rfl ?_; refine c_val _ (fun _ => e_field rfl rfl) (fun _ => rfl) rfl (by first | exact fun _ _ _ => rfl | (intro G G' h; simp (decide := true) only [h])) ?_) | refine c_val _ (fun _ => e_index (I := J) rfl rfl rfl rfl (by omega)) (fun _ => rfl) rfl (by exact fun _ _ _ => rfl) ?_ | refine c_val _ (fun _ => e_index rfl rfl rfl rfl (by omega)) (fun _ => rfl) rfl (by first | exact fun _ _ _ => rfl | (intro G G' h; simp (decide := true) only [h])) ?_ | refine c_val _ (fun _ => e_indexA rfl rfl rfl rfl (by first | decide | omega)) (fun _ => rfl) rfl (by first | exact fun _ _ _ => rfl | (intro G G' h; simp (decide := true) only [h])) ?_ | refine c_val _ (fun _ => e_nilCheck rfl rfl) (fun _ => rfl) rfl (by first | exact fun _ _ _ => rfl | (intro G G' h; simp (decide := true) only [h])) ?_) | ((with_reducible refine c_tail ?_ ?_); (· exact rfl)) | (with_reducible refine c_nil ?_)))
  (intro G; simp only [regsT, entsT, Pend.at_none, List.nil_append, List.cons_append])
  refine u_storeA (enc := encHour) (j := 2) (z := u) (runsU n u) rfl rfl rfl rfl rfl rfl rfl rfl (by decide) ?_
  (repeat' (first | ((with_reducible refine isOps ?_); first | refine u_move rfl rfl rfl rfl rfl ?_ | refine u_assign rfl rfl rfl rfl rfl ?_ | (refine x_load rfl rfl rfl rfl rfl ?_; refine ⟨_, rfl, ?_⟩) | refine u_field rfl rfl rfl rfl rfl ?_ | (refine u_call rfl rfl rfl rfl rfl rfl (fun _ _ q => hT _ (some ⟨g', 0, none⟩) c' b q.below (cells_by q.own (Below.refl _ _) rfl) ((Own.arr_sl (by (repeat (first | exact Take.here _ _ | apply Take.there))) q.own).here (.sl encHour 5 (some ⟨g', 0, none⟩) (c.hours.set J (runsU n u))) (by simp))) ?_; rintro ⟨A2, c2⟩ -; dsimp only [List.cons_append, List.nil_append]) | refine u_gives rfl rfl rfl rfl rfl rfl (fun _ _ q => hcp _ _ _ (sl_at q.own (Below.refl _ _)) q.below) ?_ | refine u_not rfl rfl rfl rfl rfl ?_ | refine u_index rfl rfl rfl rfl rfl rfl rfl (by omega) ?_ | refine u_indexA rfl rfl rfl rfl rfl rfl rfl (by first | decide | omega) ?_ | (refine x_store rfl rfl rfl rfl rfl ?_; refine And.intro rfl (And.intro (by first | decide | exact Nat.le_of_ble_eq_true rfl | (simp; omega)) ⟨_, rfl, ?_⟩)) | (refine u_box rfl rfl rfl rfl rfl rfl (fun b => ?_)) | (refine x_build rfl rfl rfl rfl rfl ?_; refine ⟨_, rfl, ?_⟩) | refine u_nilCheck rfl rfl rfl rfl rfl ?_ | refine u_makeFunc rfl rfl rfl rfl rfl rfl ?_) | (with_reducible first | refine u_seq ?_ | refine u_region ?_ | refine u_nil ?_ | refine u_then_n ?_ | refine u_ret ?_ | refine u_skip ?_ | refine u_then_r ?_ | refine u_end ?_)))
  all_goals exact u_done (by (exact ResL.cons (by exact Res1.tmp rfl) ResL.nil)) () trivial rfl (fun _ h => h.sub (by (repeat (first | exact Out.nil _ | (refine Out.cons (by (repeat (first | exact Take.here _ _ | apply Take.there))) ?_)))))
end Go.Proofs.YtdigopgncfhiaaaDoor
/- Ice: Most. -/
namespace Go.Proofs.YtdigopgncfhiaaaDoor
open Go.RowKit
set_option linter.unusedSimpArgs false
set_option linter.unusedVariables false
set_option maxRecDepth 20000
/-- the most sleds below n that the hour J bears, or -1 -/
def bestN (c : Cov) (pl : List Sli) (J : Nat) : Nat → Int
  | 0 => -1
  | n + 1 => if bearsB c pl J n then (n : Int) else bestN c pl J n
theorem bestN_in {c : Cov} {pl : List Sli} {J : Nat} : ∀ n, -1 ≤ bestN c pl J n ∧ bestN c pl J n < (n : Int)
  | 0 => by simp [bestN]
  | n + 1 => by
    have := bestN_in (c := c) (pl := pl) (J := J) n
    simp only [bestN]; split <;> omega
def mostT (c : Cov) (pl : List Sli) (h : Int) : Int × Int :=
  if errK c pl = 0 then (if inB 0 ((c.hours.length : Int) - 1) h = true then (if bestN c pl h.toNat 61 < 0 then (0, 6) else (bestN c pl h.toNat 61, 0)) else (0, 2)) else (0, errK c pl)

set_option maxHeartbeats 4000000 in
theorem iMost_any (c : Cov) (A : Option Addr) (ca : Nat) (B : Option Addr) (cb : Nat) (C : Option Addr) (cc : Nat) (pl : List Sli) (P : Option Addr) (cp : Nat) (h : Int) (w : World) (hc : CovAt w c A B C) (hs : Small c) (hp : PlanAt w P pl) (hl : pl.length ≤ 12) (hrl : ∀ s ∈ pl, s.xs.length ≤ 20) (hG : InC w 0 0 limC) :
    Gv Tryd.prog 24 [vCov c A ca B cb C cc, .slice P pl.length cp, .int .i64 h] w (.tuple #[.int .i64 (mostT c pl h).1, .int .i64 (mostT c pl h).2]) := by
  have hl4 := hs.b; have hl5 := hs.h
  have h1 := fun W (hb : Below w.heap.size w W) => iasked_no c A ca B cb C cc pl P cp W (hc.below hb) hs (hp.below hb) hl hrl
  have h2 := fun W (hb : Below w.heap.size w W) => iasked_ok c A ca B cb C cc pl P cp W (hc.below hb) hs (hp.below hb) hl hrl
  unfold vCov at h1 h2
  unfold Gv vCov mostT
  by_cases h0 : errK c pl = 0
  · rw [if_pos h0]
    obtain ⟨h00, hpl⟩ := errK_zero h0
    have hf := fine_of h00
    have h2 := fun W hb => h2 W hb h00 hpl
    by_cases hin : inB 0 ((c.hours.length : Int) - 1) h = true
    · rw [if_pos hin]
      obtain ⟨J, rfl, hJ⟩ := nat_in hin
      simp only [Int.toNat_natCast]
      have hB := fun W (hb : Below w.heap.size w W) g gp gh gr n (hr : InC W g 0 (cellsCov c A ca B cb C cc)) (hgr : InC W gr 0 [.pointer (some ⟨g, 0, none⟩)]) (hgh : InC W gh 0 [.int .i64 (J : Int)]) (hgp : InC W gp 0 [.slice P pl.length cp]) hn => bears_any c A ca B cb C cc g gp gh gr J n pl P cp W hr (hG.below hb) (hc.below hb) hs hf (hp.below hb) hrl (planOk_iff.1 hpl).1 hgr hgh hgp hJ hn
      unfold cellsCov at h2 hB ⊢
      (refine ret_enter (n := 38) Tryd.func24 rfl rfl rfl ?_)
      (repeat' (first | ((with_reducible refine isOps ?_); first | refine u_move rfl rfl rfl rfl rfl ?_ | refine u_assign rfl rfl rfl rfl rfl ?_ | (refine x_load rfl rfl rfl rfl rfl ?_; refine ⟨_, rfl, ?_⟩) | refine u_field rfl rfl rfl rfl rfl ?_ | (refine u_cmp rfl rfl rfl rfl rfl rfl rfl (fun h => ?_) (fun h => ?_) <;> (dsimp only [cmpP] at h; (try (exfalso; omega)))) | (refine u_call rfl rfl rfl rfl rfl rfl (fun _ _ q => h2 _ q.below) ?_; rintro g -; dsimp only [List.cons_append, List.nil_append]) | (refine u_gives rfl rfl rfl rfl rfl rfl (fun _ _ q => hin ▸ iin1 _ _ _ _ _ _ (src_one (enc := encI) (by exact rfl) _ q.below q.own)) ?_) | refine u_extract rfl rfl rfl rfl rfl rfl ?_ | refine u_not rfl rfl rfl rfl rfl ?_ | refine u_sub rfl rfl rfl rfl rfl rfl (IntWalk.i64_in _ (by omega)) ?_ | refine u_len rfl rfl rfl rfl rfl ?_ | (refine x_store rfl rfl rfl rfl rfl ?_; refine And.intro rfl (And.intro (by first | decide | exact Nat.le_of_ble_eq_true rfl | (simp; omega)) ⟨_, rfl, ?_⟩)) | (refine u_alloc rfl rfl rfl rfl (fun b => ?_)) | (refine u_box rfl rfl rfl rfl rfl rfl (fun b => ?_)) | (refine x_buildSlice rfl rfl rfl rfl rfl ?_; refine ⟨rfl, _, rfl, fun b => ?_⟩) | refine u_makeFunc rfl rfl rfl rfl rfl rfl ?_) | (with_reducible first | refine u_seq ?_ | refine u_region ?_ | refine u_nil ?_ | refine u_then_n ?_ | refine u_ret ?_ | refine u_skip ?_ | refine u_then_r ?_ | refine u_end ?_ | refine u_block ?_ | refine u_exit ?_ | refine u_in_n ?_ | refine u_in_r ?_ | refine u_in_same ?_ | refine u_then_e ?_) | ((with_reducible refine u_in_other ?_ ?_); (· exact rfl)) | ((with_reducible refine u_cond_t ?_ ?_); (· exact rfl)) | ((with_reducible refine u_cond_f ?_ ?_); (· exact rfl))))
      rename_i b3 b4 b5 b8
      refine u_loopP (ι := Nat) [8, 10] rfl (fun k => k ≤ 61 ∧ bestN c pl J 61 = bestN c pl J k) (fun k => [(11, .int .i64 ((k : Int) - 1))]) (fun _ => [.blk b8 [.pointer (some ⟨g, 0, none⟩)], .blk b5 [.int .i64 (J : Int)], .blk b4 [.slice P pl.length cp], .blk g (cellsCov c A ca B cb C cc)]) (fun k => k) 61 ⟨Nat.le_refl _, rfl⟩ (by (first | exact fun _ _ h => lk_nil h | (repeat (first | exact (fun _ _ h => lk_nil h) | (refine lk_sub rfl ?_))))) (by (repeat (first | exact Out.nil _ | (refine Out.cons (by (repeat (first | exact Take.here _ _ | apply Take.there))) ?_)))) ?_
      rintro k ⟨hk, hbe⟩
      simp only [zipR, cellsCov, List.cons_append, List.nil_append]
      cases k with
      | zero =>
        (repeat' (first | ((with_reducible refine isOps ?_); first | refine u_move rfl rfl rfl rfl rfl ?_ | refine u_assign rfl rfl rfl rfl rfl ?_ | (refine x_load rfl rfl rfl rfl rfl ?_; refine ⟨_, rfl, ?_⟩) | refine u_field rfl rfl rfl rfl rfl ?_ | (refine u_cmp rfl rfl rfl rfl rfl rfl rfl (fun h => ?_) (fun h => ?_) <;> (dsimp only [cmpP] at h; (try (exfalso; omega)))) | refine u_extract rfl rfl rfl rfl rfl rfl ?_ | refine u_not rfl rfl rfl rfl rfl ?_ | refine u_sub rfl rfl rfl rfl rfl rfl (IntWalk.i64_in _ (by omega)) ?_ | refine u_len rfl rfl rfl rfl rfl ?_ | (refine x_store rfl rfl rfl rfl rfl ?_; refine And.intro rfl (And.intro (by first | decide | exact Nat.le_of_ble_eq_true rfl | (simp; omega)) ⟨_, rfl, ?_⟩)) | (refine u_alloc rfl rfl rfl rfl (fun b => ?_)) | (refine u_box rfl rfl rfl rfl rfl rfl (fun b => ?_)) | (refine x_buildSlice rfl rfl rfl rfl rfl ?_; refine ⟨rfl, _, rfl, fun b => ?_⟩) | refine u_makeFunc rfl rfl rfl rfl rfl rfl ?_) | (with_reducible first | refine u_seq ?_ | refine u_region ?_ | refine u_nil ?_ | refine u_then_n ?_ | refine u_ret ?_ | refine u_skip ?_ | refine u_then_r ?_ | refine u_end ?_ | refine u_block ?_ | refine u_exit ?_ | refine u_in_n ?_ | refine u_in_r ?_ | refine u_in_same ?_ | refine u_then_e ?_) | ((with_reducible refine u_in_other ?_ ?_); (· exact rfl)) | ((with_reducible refine u_cond_t ?_ ?_); (· exact rfl)) | ((with_reducible refine u_cond_f ?_ ?_); (· exact rfl))))
        exact u_done (by (exact ResL.cons (by exact Res1.tmp rfl) (ResL.cons (by exact Res1.tmp rfl) ResL.nil))) () trivial (by rw [hbe]; simp [bestN, resV]) (fun _ h => h.sub (by (repeat (first | exact Out.nil _ | (refine Out.cons (by (repeat (first | exact Take.here _ _ | apply Take.there))) ?_)))))
      | succ n =>
        rw [show (((n + 1 : Nat) : Int) - 1) = (n : Int) by omega]
        (repeat' (first | ((with_reducible refine isOps ?_); first | refine u_move rfl rfl rfl rfl rfl ?_ | refine u_assign rfl rfl rfl rfl rfl ?_ | (refine x_load rfl rfl rfl rfl rfl ?_; refine ⟨_, rfl, ?_⟩) | refine u_field rfl rfl rfl rfl rfl ?_ | (refine u_cmp rfl rfl rfl rfl rfl rfl rfl (fun h => ?_) (fun h => ?_) <;> (dsimp only [cmpP] at h; (try (exfalso; omega)))) | (refine u_givesB rfl rfl rfl rfl rfl rfl (fun _ _ q => hB _ q.below g b4 b5 b8 n (cells_by q.own (Below.refl _ _) rfl) (cells_by q.own (Below.refl _ _) rfl) (cells_by q.own (Below.refl _ _) rfl) (cells_by q.own (Below.refl _ _) rfl) (by omega)) (fun h => ?_) (fun h => ?_) <;> (try (exfalso; omega))) | refine u_extract rfl rfl rfl rfl rfl rfl ?_ | refine u_not rfl rfl rfl rfl rfl ?_ | refine u_sub rfl rfl rfl rfl rfl rfl (IntWalk.i64_in _ (by omega)) ?_ | refine u_len rfl rfl rfl rfl rfl ?_ | (refine x_store rfl rfl rfl rfl rfl ?_; refine And.intro rfl (And.intro (by first | decide | exact Nat.le_of_ble_eq_true rfl | (simp; omega)) ⟨_, rfl, ?_⟩)) | (refine u_alloc rfl rfl rfl rfl (fun b => ?_)) | (refine u_box rfl rfl rfl rfl rfl rfl (fun b => ?_)) | (refine x_buildSlice rfl rfl rfl rfl rfl ?_; refine ⟨rfl, _, rfl, fun b => ?_⟩) | refine u_makeFunc rfl rfl rfl rfl rfl rfl ?_) | (with_reducible first | refine u_seq ?_ | refine u_region ?_ | refine u_nil ?_ | refine u_then_n ?_ | refine u_ret ?_ | refine u_skip ?_ | refine u_then_r ?_ | refine u_end ?_ | refine u_block ?_ | refine u_exit ?_ | refine u_in_n ?_ | refine u_in_r ?_ | refine u_in_same ?_ | refine u_then_e ?_) | ((with_reducible refine u_in_other ?_ ?_); (· exact rfl)) | ((with_reducible refine u_cond_t ?_ ?_); (· exact rfl)) | ((with_reducible refine u_cond_f ?_ ?_); (· exact rfl))))
        · exact u_done (by (exact ResL.cons (by exact Res1.tmp rfl) (ResL.cons (by exact Res1.tmp rfl) ResL.nil))) () trivial (by rw [hbe, show bestN c pl J (n + 1) = (n : Int) from by simp [bestN, h], if_neg (by omega)]; rfl) (fun _ h => h.sub (by (repeat (first | exact Out.nil _ | (refine Out.cons (by (repeat (first | exact Take.here _ _ | apply Take.there))) ?_)))))
        · exact u_again n ⟨by omega, by rw [hbe]; simp [bestN, h]⟩ (by omega) (by (first | exact fun _ _ h => lk_nil h | (repeat (first | exact (fun _ _ h => lk_nil h) | (refine lk_sub rfl ?_))))) (by (repeat (first | exact Out.nil _ | (refine Out.cons (by (repeat (first | exact Take.here _ _ | apply Take.there))) ?_))))
    · rw [if_neg hin]
      unfold cellsCov at h2 ⊢
      (refine ret_enter (n := 38) Tryd.func24 rfl rfl rfl ?_)
      (repeat' (first | ((with_reducible refine isOps ?_); first | refine u_move rfl rfl rfl rfl rfl ?_ | refine u_assign rfl rfl rfl rfl rfl ?_ | (refine x_load rfl rfl rfl rfl rfl ?_; refine ⟨_, rfl, ?_⟩) | refine u_field rfl rfl rfl rfl rfl ?_ | (refine u_cmp rfl rfl rfl rfl rfl rfl rfl (fun h => ?_) (fun h => ?_) <;> (dsimp only [cmpP] at h; (try (exfalso; omega)))) | (refine u_call rfl rfl rfl rfl rfl rfl (fun _ _ q => h2 _ q.below) ?_; rintro g -; dsimp only [List.cons_append, List.nil_append]) | (refine u_gives rfl rfl rfl rfl rfl rfl (fun _ _ q => (Bool.eq_false_iff.2 hin) ▸ iin1 _ _ _ _ _ _ (src_one (enc := encI) (by exact rfl) _ q.below q.own)) ?_) | refine u_extract rfl rfl rfl rfl rfl rfl ?_ | refine u_not rfl rfl rfl rfl rfl ?_ | refine u_sub rfl rfl rfl rfl rfl rfl (IntWalk.i64_in _ (by omega)) ?_ | refine u_len rfl rfl rfl rfl rfl ?_ | (refine x_store rfl rfl rfl rfl rfl ?_; refine And.intro rfl (And.intro (by first | decide | exact Nat.le_of_ble_eq_true rfl | (simp; omega)) ⟨_, rfl, ?_⟩)) | (refine u_alloc rfl rfl rfl rfl (fun b => ?_)) | (refine u_box rfl rfl rfl rfl rfl rfl (fun b => ?_)) | (refine x_buildSlice rfl rfl rfl rfl rfl ?_; refine ⟨rfl, _, rfl, fun b => ?_⟩) | refine u_makeFunc rfl rfl rfl rfl rfl rfl ?_) | (with_reducible first | refine u_seq ?_ | refine u_region ?_ | refine u_nil ?_ | refine u_then_n ?_ | refine u_ret ?_ | refine u_skip ?_ | refine u_then_r ?_ | refine u_end ?_ | refine u_block ?_ | refine u_exit ?_ | refine u_in_n ?_ | refine u_in_r ?_ | refine u_in_same ?_ | refine u_then_e ?_) | ((with_reducible refine u_in_other ?_ ?_); (· exact rfl)) | ((with_reducible refine u_cond_t ?_ ?_); (· exact rfl)) | ((with_reducible refine u_cond_f ?_ ?_); (· exact rfl))))
      all_goals exact u_done (by (exact ResL.cons (by exact Res1.tmp rfl) (ResL.cons (by exact Res1.tmp rfl) ResL.nil))) () trivial rfl (fun _ h => h.sub (by (repeat (first | exact Out.nil _ | (refine Out.cons (by (repeat (first | exact Take.here _ _ | apply Take.there))) ?_)))))
  · rw [if_neg h0]
    unfold cellsCov at h1 ⊢
    generalize errK c pl = e at *
    (refine ret_enter (n := 38) Tryd.func24 rfl rfl rfl ?_)
    (repeat' (first | ((with_reducible refine isOps ?_); first | refine u_move rfl rfl rfl rfl rfl ?_ | refine u_assign rfl rfl rfl rfl rfl ?_ | (refine x_load rfl rfl rfl rfl rfl ?_; refine ⟨_, rfl, ?_⟩) | refine u_field rfl rfl rfl rfl rfl ?_ | (refine u_cmp rfl rfl rfl rfl rfl rfl rfl (fun h => ?_) (fun h => ?_) <;> (dsimp only [cmpP] at h; (try (exfalso; omega)))) | refine u_gives rfl rfl rfl rfl rfl rfl (fun _ _ q => h1 _ q.below h0) ?_ | refine u_extract rfl rfl rfl rfl rfl rfl ?_ | refine u_not rfl rfl rfl rfl rfl ?_ | refine u_sub rfl rfl rfl rfl rfl rfl (IntWalk.i64_in _ (by omega)) ?_ | refine u_len rfl rfl rfl rfl rfl ?_ | (refine x_store rfl rfl rfl rfl rfl ?_; refine And.intro rfl (And.intro (by first | decide | exact Nat.le_of_ble_eq_true rfl | (simp; omega)) ⟨_, rfl, ?_⟩)) | (refine u_alloc rfl rfl rfl rfl (fun b => ?_)) | (refine u_box rfl rfl rfl rfl rfl rfl (fun b => ?_)) | (refine x_buildSlice rfl rfl rfl rfl rfl ?_; refine ⟨rfl, _, rfl, fun b => ?_⟩) | refine u_makeFunc rfl rfl rfl rfl rfl rfl ?_) | (with_reducible first | refine u_seq ?_ | refine u_region ?_ | refine u_nil ?_ | refine u_then_n ?_ | refine u_ret ?_ | refine u_skip ?_ | refine u_then_r ?_ | refine u_end ?_ | refine u_block ?_ | refine u_exit ?_ | refine u_in_n ?_ | refine u_in_r ?_ | refine u_in_same ?_ | refine u_then_e ?_) | ((with_reducible refine u_in_other ?_ ?_); (· exact rfl)) | ((with_reducible refine u_cond_t ?_ ?_); (· exact rfl)) | ((with_reducible refine u_cond_f ?_ ?_); (· exact rfl))))
    all_goals exact u_done (by (exact ResL.cons (by exact Res1.tmp rfl) (ResL.cons (by exact Res1.tmp rfl) ResL.nil))) () trivial rfl (fun _ h => h.sub (by (repeat (first | exact Out.nil _ | (refine Out.cons (by (repeat (first | exact Take.here _ _ | apply Take.there))) ?_)))))
end Go.Proofs.YtdigopgncfhiaaaDoor
