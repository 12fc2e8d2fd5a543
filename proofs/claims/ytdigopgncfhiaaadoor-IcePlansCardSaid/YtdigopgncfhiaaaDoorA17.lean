/- Ice: hours that are short, by the program; whether all can be done, by the reference; needs that are less. -/
import Derived.Test.YtdigopgncfhiaaaDoorA16
import Derived.Test.YtdigopgncfhiaaaDoorA14
namespace Go.Proofs.YtdigopgncfhiaaaDoor
open Go.RowKit
open Flow (lackF sumL)
set_option linter.unusedSimpArgs false
set_option linter.unusedVariables false
set_option maxRecDepth 20000
/-- the cells of what is to do -/
def cellsRo (A : Option Addr) (la ca : Nat) (B : Option Addr) (lb cb : Nat) (C : Option Addr) (lc cc : Nat) : List Value := [.slice A la ca, .slice B lb cb, .slice C lc cc]
def shortI (nds : List (List Int)) (mys : List (List Bool)) (hs : List Int) (hour m : Nat) : Int := sumL (List.range nds.length) (fun i => lackO nds mys m i (hour + 1)) - handS hs m hour
set_option maxHeartbeats 2000000 in
theorem ishort_any (L : List (SlOf Int)) (A : Option Addr) (ca : Nat) (M : List (SlOf Bool)) (B : Option Addr) (cb : Nat) (hs : List Int) (C : Option Addr) (cc hour m : Nat) (w : World) (hL : TabAt encI 1 w A L) (hM : TabAt encBl 1 w B M) (hh : SlAt encI 1 w C hs) (hok : RowsOk L M hs) (hmb : m < 1000000) (hr : ∀ s ∈ L, hour < s.xs.length) (hr2 : ∀ t ∈ M, hour < t.xs.length) (hr3 : hour ≤ hs.length) :
    Gv Tryd.prog 46 [.agg (cellsRo A L.length ca B M.length cb C hs.length cc).toArray, .int .i64 (hour : Int), .int .i64 (m : Int)] w (.bool (decide (0 < shortI (L.map (·.xs)) (M.map (·.xs)) hs hour m))) := by
  have n1 := hok.len; have n2 := hok.len2; have n3 := hok.hlen
  have hLp := hL.p; have hMp := hM.p
  unfold Gv cellsRo
  (refine ret_enter (n := 76) Tryd.func46 rfl rfl rfl ?_)
  (repeat' (first | ((with_reducible refine isOps ?_); first | refine u_move rfl rfl rfl rfl rfl ?_ | refine u_assign rfl rfl rfl rfl rfl ?_ | (refine x_load rfl rfl rfl rfl rfl ?_; refine ⟨_, rfl, ?_⟩) | refine u_field rfl rfl rfl rfl rfl ?_ | refine u_len rfl rfl rfl rfl rfl ?_ | (refine u_box rfl rfl rfl rfl rfl rfl (fun b => ?_))) | (with_reducible first | refine u_seq ?_ | refine u_region ?_ | refine u_nil ?_ | refine u_then_n ?_ | refine u_block ?_)))
  obtain ⟨b1, hb1⟩ : ∃ b1, b1 = b := ⟨_, rfl⟩
  subst hb1
  refine u_loopP (ι := Nat) [3, 1, 2, 15, 16] rfl (fun i => i ≤ L.length) (fun i => [(17, .int .i64 (i : Int)), (7, .int .i64 (sumL (List.range i) (fun i => lackO (L.map (·.xs)) (M.map (·.xs)) m i (hour + 1))))]) (fun _ => [.blk b1 [.slice A L.length ca, .slice B M.length cb, .slice C hs.length cc]]) (fun i => L.length - i) 0 (Nat.zero_le _) (by (first | exact fun _ _ h => lk_nil h | (repeat (first | exact (fun _ _ h => lk_nil h) | (refine lk_sub rfl ?_))))) (by (repeat (first | exact Out.nil _ | (refine Out.cons (by (repeat (first | exact Take.here _ _ | apply Take.there))) ?_)))) ?_
  rintro i hi
  simp only [zipR, List.cons_append, List.nil_append]
  by_cases hlt : i < L.length
  · obtain ⟨s, hs1⟩ : ∃ s, L[i]? = some s := ⟨_, List.getElem?_eq_getElem hlt⟩
    obtain ⟨t, ht1⟩ : ∃ t, M[i]? = some t := ⟨_, List.getElem?_eq_getElem (by omega)⟩
    obtain ⟨b2, o2, rfl, _, _⟩ := hLp.at_ hlt
    obtain ⟨b3, o3, rfl, _, _⟩ := hMp.at_ (i := i) (by omega)
    have : InS w b2 o2 encOf 1 L := ⟨hLp⟩
    have : InS w b3 o3 encOf 1 M := ⟨hMp⟩
    have : GetI L i s := ⟨hs1⟩
    have : GetI M i t := ⟨ht1⟩
    have hsx := hL.rows s (List.mem_of_getElem? hs1)
    have htx := hM.rows t (List.mem_of_getElem? ht1)
    have hsl := hr s (List.mem_of_getElem? hs1)
    have htl := hr2 t (List.mem_of_getElem? ht1)
    have hsum := sumL_in (fun i => hok.lackO_in m i (hour + 1)) i
    have e2 := Flow.sumL_range_succ (fun i => lackO (L.map (·.xs)) (M.map (·.xs)) m i (hour + 1)) i
    have e3 : ∀ k, lackO (L.map (·.xs)) (M.map (·.xs)) m i k = (lackF (fun h => s.xs.getD h 0) (fun h => t.xs.getD h false) m.testBit k).1 := fun k => by
      unfold lackO
      rw [getD_map hs1, getD_map ht1]
    have e4 := hok.lackO_in m i (hour + 1)
    have hbg := getD_in (hok.big s (List.mem_of_getElem? hs1))
    have hrl := hok.rlen s (List.mem_of_getElem? hs1)
    rw [e3] at e2 e4
    generalize sumL (List.range i) (fun i => lackO (L.map (·.xs)) (M.map (·.xs)) m i (hour + 1)) = p at *
    clear e3
    obtain ⟨sA, sx, sc⟩ := s
    obtain ⟨tA, tx, tc⟩ := t
    simp only at hsx htx hsl htl e2 e4 hbg hrl
    obtain ⟨b4, o4, rfl, _, _⟩ := hsx.at_ (i := 0) (by omega)
    obtain ⟨b5, o5, rfl, _, _⟩ := htx.at_ (i := 0) (by omega)
    have : InS w b4 o4 encI 1 sx := ⟨hsx⟩
    have : InS w b5 o5 encBl 1 tx := ⟨htx⟩
    (repeat' (first | ((with_reducible refine isOps ?_); first | refine u_move rfl rfl rfl rfl rfl ?_ | refine u_assign rfl rfl rfl rfl rfl ?_ | (refine x_load rfl rfl rfl rfl rfl ?_; refine ⟨_, rfl, ?_⟩) | (refine u_cmp rfl rfl rfl rfl rfl rfl rfl (fun h => ?_) (fun h => ?_) <;> (dsimp only [cmpP] at h; (try (exfalso; omega)))) | refine u_add1 rfl rfl rfl rfl rfl rfl (by omega) ?_ | refine u_index rfl rfl rfl rfl rfl rfl rfl (by omega) ?_) | (with_reducible first | refine u_seq ?_ | refine u_region ?_ | refine u_nil ?_ | refine u_then_n ?_ | refine u_skip ?_ | refine u_block ?_) | ((with_reducible refine u_cond_t ?_ ?_); (· exact rfl))))
    refine u_loopP (ι := Nat) [3, 1, 2, 15, 16, 17, 7, 8, 9, 23] rfl (fun k => k ≤ hour + 1) (fun k => [(24, .int .i64 (k : Int)), (10, .int .i64 (lackF (fun h => sx.getD h 0) (fun h => tx.getD h false) m.testBit k).1), (11, .int .i64 (lackF (fun h => sx.getD h 0) (fun h => tx.getD h false) m.testBit k).2)]) (fun _ => [.blk b1 [.slice (some ⟨b2, o2, none⟩) L.length ca, .slice (some ⟨b3, o3, none⟩) M.length cb, .slice C hs.length cc]]) (fun k => hour + 1 - k) 0 (Nat.zero_le _) (by (first | exact fun _ _ h => lk_nil h | (repeat (first | exact (fun _ _ h => lk_nil h) | (refine lk_sub rfl ?_))))) (by (repeat (first | exact Out.nil _ | (refine Out.cons (by (repeat (first | exact Take.here _ _ | apply Take.there))) ?_)))) ?_
    rintro k hk
    simp only [zipR, List.cons_append, List.nil_append]
    by_cases hkl : k < hour + 1
    · have hin := lackF_in (nd := fun h => sx.getD h 0) (my := fun h => tx.getD h false) (sm := m.testBit) hbg k
      have hbx := hbg k
      have : GetI sx k (sx.getD k 0) := ⟨by rw [Flow.getD_lt (by omega)]; simp⟩
      have e1 : lackF (fun h => sx.getD h 0) (fun h => tx.getD h false) m.testBit (k + 1) = (max (lackF (fun h => sx.getD h 0) (fun h => tx.getD h false) m.testBit k).1 (sx.getD k 0 - (lackF (fun h => sx.getD h 0) (fun h => tx.getD h false) m.testBit k).2), if (tx.getD k false && !m.testBit k) = true then (lackF (fun h => sx.getD h 0) (fun h => tx.getD h false) m.testBit k).2 + 1 else (lackF (fun h => sx.getD h 0) (fun h => tx.getD h false) m.testBit k).2) := rfl
      have hg : tx[k]? = some (tx.getD k false) := by rw [Flow.getD_lt (by omega)]; simp
      have hb2 := Nat.shiftRight_le m k
      rw [bit_zero] at e1
      clear e2 e4
      generalize lackF (fun h => sx.getD h 0) (fun h => tx.getD h false) m.testBit k = pp at *
      generalize tx.getD k false = z at *
      generalize sx.getD k 0 = x at *
      have : GetI tx k z := ⟨hg⟩
      cases z
      · simp only [Bool.false_and, Bool.false_eq_true, if_false] at e1
        (repeat' (first | ((with_reducible refine isOps ?_); first | refine u_move rfl rfl rfl rfl rfl ?_ | refine u_assign rfl rfl rfl rfl rfl ?_ | (refine x_load rfl rfl rfl rfl rfl ?_; refine ⟨_, rfl, ?_⟩) | refine u_field rfl rfl rfl rfl rfl ?_ | refine u_pick rfl rfl rfl rfl rfl rfl ?_ | refine u_not_wanted rfl rfl rfl ?_ | (refine u_cmp rfl rfl rfl rfl rfl rfl rfl (fun h => ?_) (fun h => ?_) <;> (dsimp only [cmpP] at h; (try (exfalso; omega)))) | refine u_index (I := k) rfl rfl rfl rfl rfl rfl rfl (by dsimp only; omega) ?_ | refine u_add1 rfl rfl rfl rfl rfl rfl (by omega) ?_ | refine u_sub rfl rfl rfl rfl rfl rfl (IntWalk.i64_in _ (by omega)) ?_ | refine u_index rfl rfl rfl rfl rfl rfl rfl (by omega) ?_ | refine u_max rfl rfl rfl rfl rfl rfl ?_) | (with_reducible first | refine u_seq ?_ | refine u_region ?_ | refine u_nil ?_ | refine u_then_n ?_ | refine u_skip ?_ | refine u_block ?_ | refine u_in_n ?_) | ((with_reducible refine u_cond_t ?_ ?_); (· exact rfl)) | ((with_reducible refine u_cond_f ?_ ?_); (· exact rfl))))
        exact u_again (k + 1) (by omega) (by omega) (by rw [e1]; (first | exact fun _ _ h => lk_nil h | (repeat (first | exact (fun _ _ h => lk_nil h) | (refine lk_sub rfl ?_))))) (by (repeat (first | exact Out.nil _ | (refine Out.cons (by (repeat (first | exact Take.here _ _ | apply Take.there))) ?_))))
      · simp only [Bool.true_and, decide_eq_true_eq] at e1
        (repeat' (first | ((with_reducible refine isOps ?_); first | refine u_move rfl rfl rfl rfl rfl ?_ | refine u_assign rfl rfl rfl rfl rfl ?_ | (refine x_load rfl rfl rfl rfl rfl ?_; refine ⟨_, rfl, ?_⟩) | refine u_field rfl rfl rfl rfl rfl ?_ | refine u_pick rfl rfl rfl rfl rfl rfl ?_ | (refine u_cmp rfl rfl rfl rfl rfl rfl rfl (fun h => ?_) (fun h => ?_) <;> (dsimp only [cmpP] at h; (try (exfalso; omega)))) | refine u_index (I := k) rfl rfl rfl rfl rfl rfl rfl (by dsimp only; omega) ?_ | refine u_val rfl rfl rfl (e_shr rfl rfl rfl (by omega)) ?_ | refine u_val rfl rfl rfl (e_and1 rfl rfl rfl (by omega)) ?_ | refine u_add1 rfl rfl rfl rfl rfl rfl (by omega) ?_ | refine u_add rfl rfl rfl rfl rfl rfl (IntWalk.i64_in _ (by omega)) ?_ | refine u_sub rfl rfl rfl rfl rfl rfl (IntWalk.i64_in _ (by omega)) ?_ | refine u_index rfl rfl rfl rfl rfl rfl rfl (by omega) ?_ | refine u_max rfl rfl rfl rfl rfl rfl ?_) | (with_reducible first | refine u_seq ?_ | refine u_region ?_ | refine u_nil ?_ | refine u_then_n ?_ | refine u_skip ?_ | refine u_block ?_ | refine u_in_n ?_) | ((with_reducible refine u_cond_t ?_ ?_); (· exact rfl)) | ((with_reducible refine u_cond_f ?_ ?_); (· exact rfl))))
        · exact u_again (k + 1) (by omega) (by omega) (by rw [e1, if_pos (by omega)]; (first | exact fun _ _ h => lk_nil h | (repeat (first | exact (fun _ _ h => lk_nil h) | (refine lk_sub rfl ?_))))) (by (repeat (first | exact Out.nil _ | (refine Out.cons (by (repeat (first | exact Take.here _ _ | apply Take.there))) ?_))))
        · exact u_again (k + 1) (by omega) (by omega) (by rw [e1, if_neg (by omega)]; (first | exact fun _ _ h => lk_nil h | (repeat (first | exact (fun _ _ h => lk_nil h) | (refine lk_sub rfl ?_))))) (by (repeat (first | exact Out.nil _ | (refine Out.cons (by (repeat (first | exact Take.here _ _ | apply Take.there))) ?_))))
    · obtain rfl : k = hour + 1 := by omega
      (repeat' (first | ((with_reducible refine isOps ?_); first | refine u_move rfl rfl rfl rfl rfl ?_ | refine u_assign rfl rfl rfl rfl rfl ?_ | (refine u_cmp rfl rfl rfl rfl rfl rfl rfl (fun h => ?_) (fun h => ?_) <;> (dsimp only [cmpP] at h; (try (exfalso; omega)))) | refine u_add1 rfl rfl rfl rfl rfl rfl (by omega) ?_ | refine u_add rfl rfl rfl rfl rfl rfl (IntWalk.i64_in _ (by omega)) ?_) | (with_reducible first | refine u_seq ?_ | refine u_region ?_ | refine u_nil ?_ | refine u_then_n ?_ | refine u_exit ?_ | refine u_in_n ?_ | refine u_in_same ?_ | refine u_then_e ?_) | ((with_reducible refine u_cond_f ?_ ?_); (· exact rfl))))
      exact u_again (i + 1) (by omega) (by omega) (by rw [e2]; (first | exact fun _ _ h => lk_nil h | (repeat (first | exact (fun _ _ h => lk_nil h) | (refine lk_sub rfl ?_))))) (by (repeat (first | exact Out.nil _ | (refine Out.cons (by (repeat (first | exact Take.here _ _ | apply Take.there))) ?_))))
  obtain rfl : i = L.length := by omega
  (repeat' (first | ((with_reducible refine isOps ?_); first | refine u_move rfl rfl rfl rfl rfl ?_ | (refine u_cmp rfl rfl rfl rfl rfl rfl rfl (fun h => ?_) (fun h => ?_) <;> (dsimp only [cmpP] at h; (try (exfalso; omega))))) | (with_reducible first | refine u_seq ?_ | refine u_region ?_ | refine u_nil ?_ | refine u_then_n ?_ | refine u_block ?_ | refine u_exit ?_ | refine u_in_same ?_ | refine u_then_e ?_) | ((with_reducible refine u_cond_f ?_ ?_); (· exact rfl))))
  have hsum := sumL_in (fun i => hok.lackO_in m i (hour + 1)) L.length
  have hfin : shortI (L.map (·.xs)) (M.map (·.xs)) hs hour m = sumL (List.range L.length) (fun i => lackO (L.map (·.xs)) (M.map (·.xs)) m i (hour + 1)) - handS hs m hour := by unfold shortI; rw [List.length_map]
  rw [hfin]
  generalize sumL (List.range L.length) (fun i => lackO (L.map (·.xs)) (M.map (·.xs)) m i (hour + 1)) = p at *
  refine u_loopP (ι := Nat) [3, 2, 57] rfl (fun h => h ≤ hour) (fun h => [(58, .int .i64 (h : Int)), (7, .int .i64 (p - handS hs m h))]) (fun _ => [.blk b1 [.slice A L.length ca, .slice B M.length cb, .slice C hs.length cc]]) (fun h => hour - h) 0 (Nat.zero_le _) (by rw [show handS hs m 0 = 0 from rfl, Int.sub_zero]; (first | exact fun _ _ h => lk_nil h | (repeat (first | exact (fun _ _ h => lk_nil h) | (refine lk_sub rfl ?_))))) (by (repeat (first | exact Out.nil _ | (refine Out.cons (by (repeat (first | exact Take.here _ _ | apply Take.there))) ?_)))) ?_
  rintro k hk
  simp only [zipR, List.cons_append, List.nil_append]
  by_cases hlt : k < hour
  · obtain ⟨b2, o2, rfl, _, _⟩ := hh.at_ (i := k) (by omega)
    have : InS w b2 o2 encI 1 hs := ⟨hh⟩
    have : GetI hs k (hs.getD k 0) := ⟨by rw [Flow.getD_lt (by omega)]; simp⟩
    have hsum2 : 0 ≤ handS hs m k ∧ handS hs m k ≤ 1000 * k := sumL_in (hok.hand_in m) k
    have e2 : handS hs m (k + 1) = handS hs m k + (if m.testBit k then hs.getD k 0 else 0) := Flow.sumL_range_succ _ k
    have hx : 0 ≤ hs.getD k 0 ∧ hs.getD k 0 ≤ 1000 := by rw [Flow.getD_lt (by omega)]; exact hok.hbig _ (List.getElem_mem (by omega))
    rw [bit_one] at e2
    have hb2 := Nat.shiftRight_le m k
    generalize hs.getD k 0 = x at *
    generalize handS hs m k = r at *
    have e5 : (if decide ((m >>> k) % 2 = 1) = true then x else 0) = ((m >>> k % 2 : Nat) : Int) * x := by
      rcases Nat.mod_two_eq_zero_or_one (m >>> k) with h | h <;> simp [h]
    rw [e5] at e2
    have e6 : 0 ≤ ((m >>> k % 2 : Nat) : Int) * x ∧ ((m >>> k % 2 : Nat) : Int) * x ≤ 1000 := by
      rw [← e5]; split <;> omega
    (repeat' (first | ((with_reducible refine isOps ?_); first | refine u_move rfl rfl rfl rfl rfl ?_ | refine u_assign rfl rfl rfl rfl rfl ?_ | (refine u_cmp rfl rfl rfl rfl rfl rfl rfl (fun h => ?_) (fun h => ?_) <;> (dsimp only [cmpP] at h; (try (exfalso; omega))))) | (with_reducible first | refine u_seq ?_ | refine u_region ?_ | refine u_nil ?_ | refine u_then_n ?_ | refine u_skip ?_ | refine u_block ?_) | ((with_reducible refine u_cond_t ?_ ?_); (· exact rfl))))
    (refine u_quiet (by kernel_rfl) (by kernel_rfl) (by kernel_rfl) ?_)
    (repeat' (first | ((with_reducible refine isOpsQ ?_); first | refine q_val (e_move rfl rfl) rfl rfl rfl ?_ | refine q_val (e_load' rfl rfl (by exact rfl)) rfl rfl rfl ?_ | refine q_val (e_field rfl rfl) rfl rfl rfl ?_ | refine q_val (e_assign rfl rfl) rfl rfl rfl ?_ | refine q_val (e_shr rfl rfl rfl (by omega)) rfl rfl rfl ?_ | refine q_val (e_and1 rfl rfl rfl (by omega)) rfl rfl rfl ?_ | refine q_val (e_sub rfl rfl rfl (IntWalk.i64_in _ (by omega))) rfl rfl rfl ?_ | refine q_val (e_mul rfl rfl rfl (IntWalk.i64_in _ (by omega))) rfl rfl rfl ?_ | refine q_val (e_index rfl rfl rfl rfl (by omega)) rfl rfl rfl ?_) | (with_reducible refine q_nil ?_)))
    (repeat' (first | ((with_reducible refine isOps ?_); first | refine u_move rfl rfl rfl rfl rfl ?_ | refine u_add1 rfl rfl rfl rfl rfl rfl (by omega) ?_) | (with_reducible first | refine u_region ?_ | refine u_nil ?_ | refine u_then_n ?_ | refine u_in_n ?_)))
    exact u_again (k + 1) (by omega) (by omega) (by rw [e2, ← Int.sub_sub]; (first | exact fun _ _ h => lk_nil h | (repeat (first | exact (fun _ _ h => lk_nil h) | (refine lk_sub rfl ?_))))) (by (repeat (first | exact Out.nil _ | (refine Out.cons (by (repeat (first | exact Take.here _ _ | apply Take.there))) ?_))))
  · obtain rfl : k = hour := by omega
    have hsum2 : 0 ≤ handS hs m k ∧ handS hs m k ≤ 1000 * k := sumL_in (hok.hand_in m) k
    (repeat' (first | ((with_reducible refine isOps ?_); first | refine u_move rfl rfl rfl rfl rfl ?_ | refine u_assign rfl rfl rfl rfl rfl ?_ | (refine u_cmp rfl rfl rfl rfl rfl rfl rfl (fun h => ?_) (fun h => ?_) <;> (dsimp only [cmpP] at h; (try (exfalso; omega))))) | (with_reducible first | refine u_seq ?_ | refine u_region ?_ | refine u_nil ?_ | refine u_then_n ?_ | refine u_ret ?_ | refine u_exit ?_ | refine u_in_same ?_ | refine u_then_e ?_) | ((with_reducible refine u_cond_f ?_ ?_); (· exact rfl))))
    all_goals exact u_done (by (exact ResL.cons (by exact Res1.tmp rfl) ResL.nil)) () trivial (by simp [resV]; omega) (fun _ h => h.sub (by (repeat (first | exact Out.nil _ | (refine Out.cons (by (repeat (first | exact Take.here _ _ | apply Take.there))) ?_)))))
/-- whether no hours are short -/
def canB (nds : List (List Int)) (mys : List (List Bool)) (hs : List Int) : Bool := (List.range (2 ^ hs.length)).all fun m => !decide (0 < shortR nds mys hs m)
set_option maxHeartbeats 1000000 in
theorem rcan_any (L : List (SlOf Int)) (A : Option Addr) (ca : Nat) (M : List (SlOf Bool)) (B : Option Addr) (cb : Nat) (hs : List Int) (C : Option Addr) (cc : Nat) (w : World) (hL : TabAt encI 1 w A L) (hM : TabAt encBl 1 w B M) (hh : SlAt encI 1 w C hs) (hok : RowsOk L M hs) :
    Gv Tryd.prog 44 [.slice A L.length ca, .slice B M.length cb, .slice C hs.length cc] w (.bool (canB (L.map (·.xs)) (M.map (·.xs)) hs)) := by
  have n3 := hok.hlen
  have hp : 2 ^ hs.length ≤ 2 ^ 12 := Nat.pow_le_pow_right (by omega) n3
  have hsh := fun W (hb : Below w.heap.size w W) m (hm : m < 1000000) => rshort_any L A ca M B cb hs C cc m W (hL.below hb) (hM.below hb) (hh.below hb) hok hm
  unfold canB
  generalize hP : 2 ^ hs.length = N at *
  unfold Gv
  (refine ret_enter (n := 20) Tryd.func44 rfl rfl rfl ?_)
  (repeat' (first | ((with_reducible refine isOps ?_); first | refine u_assign rfl rfl rfl rfl rfl ?_) | (with_reducible first | refine u_seq ?_ | refine u_region ?_ | refine u_nil ?_ | refine u_then_n ?_ | refine u_block ?_)))
  refine u_loopP (ι := Nat) [0, 1, 2] rfl (fun k => k ≤ N ∧ ∀ m, m < k → decide (0 < shortR (L.map (·.xs)) (M.map (·.xs)) hs m) = false) (fun k => [(7, .int .i64 (k : Int))]) (fun _ => []) (fun k => N - k) 0 ⟨Nat.zero_le _, by omega⟩ (by (first | exact fun _ _ h => lk_nil h | (repeat (first | exact (fun _ _ h => lk_nil h) | (refine lk_sub rfl ?_))))) (by (repeat (first | exact Out.nil _ | (refine Out.cons (by (repeat (first | exact Take.here _ _ | apply Take.there))) ?_)))) ?_
  rintro k ⟨hk, hall⟩
  simp only [zipR, List.cons_append, List.nil_append]
  by_cases hlt : k < N
  · have hs1 := fun W hb => hsh W hb k (by omega)
    generalize hz : decide (0 < shortR (L.map (·.xs)) (M.map (·.xs)) hs k) = z at *
    (repeat' (first | ((with_reducible refine isOps ?_); first | refine u_move rfl rfl rfl rfl rfl ?_ | refine u_assign rfl rfl rfl rfl rfl ?_ | (refine u_cmp rfl rfl rfl rfl rfl rfl rfl (fun h => ?_) (fun h => ?_) <;> (dsimp only [cmpP] at h; (try (exfalso; omega)))) | refine u_val rfl rfl rfl (e_shl1 rfl rfl rfl (by omega)) ?_ | (refine u_givesB rfl rfl rfl rfl rfl rfl (fun _ _ q => hs1 _ q.below) (fun h => ?_) (fun h => ?_) <;> skip) | refine u_add1 rfl rfl rfl rfl rfl rfl (by omega) ?_ | refine u_len rfl rfl rfl rfl rfl ?_) | (with_reducible first | refine u_seq ?_ | refine u_region ?_ | refine u_nil ?_ | refine u_then_n ?_ | refine u_ret ?_ | refine u_skip ?_ | refine u_then_r ?_ | refine u_block ?_ | refine u_in_n ?_ | refine u_in_r ?_) | ((with_reducible refine u_cond_t ?_ ?_); (· exact rfl)) | ((with_reducible refine u_cond_f ?_ ?_); (· exact rfl))))
    · have e : ((List.range N).all fun m => !decide (0 < shortR (L.map (·.xs)) (M.map (·.xs)) hs m)) = false := List.all_eq_false.2 ⟨k, List.mem_range.2 hlt, by rw [hz, h]; simp⟩
      exact u_done (by (exact ResL.cons (by exact Res1.tmp rfl) ResL.nil)) () trivial (by rw [e]; rfl) (fun _ h => h.sub (by (repeat (first | exact Out.nil _ | (refine Out.cons (by (repeat (first | exact Take.here _ _ | apply Take.there))) ?_)))))
    · exact u_again (k + 1) ⟨by omega, fun m hm => by
        by_cases e : m = k
        · subst e; rw [hz]; assumption
        · exact hall m (by omega)⟩ (by omega) (by (first | exact fun _ _ h => lk_nil h | (repeat (first | exact (fun _ _ h => lk_nil h) | (refine lk_sub rfl ?_))))) (by (repeat (first | exact Out.nil _ | (refine Out.cons (by (repeat (first | exact Take.here _ _ | apply Take.there))) ?_))))
  · obtain rfl : k = N := by omega
    (repeat' (first | ((with_reducible refine isOps ?_); first | refine u_move rfl rfl rfl rfl rfl ?_ | refine u_assign rfl rfl rfl rfl rfl ?_ | (refine u_cmp rfl rfl rfl rfl rfl rfl rfl (fun h => ?_) (fun h => ?_) <;> (dsimp only [cmpP] at h; (try (exfalso; omega)))) | refine u_val rfl rfl rfl (e_shl1 rfl rfl rfl (by omega)) ?_ | refine u_len rfl rfl rfl rfl rfl ?_) | (with_reducible first | refine u_seq ?_ | refine u_region ?_ | refine u_nil ?_ | refine u_then_n ?_ | refine u_ret ?_ | refine u_exit ?_ | refine u_in_same ?_ | refine u_then_e ?_) | ((with_reducible refine u_cond_f ?_ ?_); (· exact rfl))))
    exact u_done (by (exact ResL.cons (by exact Res1.tmp rfl) ResL.nil)) () trivial (by
      have : ((List.range k).all fun m => !decide (0 < shortR (L.map (·.xs)) (M.map (·.xs)) hs m)) = true := List.all_eq_true.2 fun m hm => by rw [hall m (List.mem_range.1 hm)]; rfl
      rw [this]; rfl) (fun _ h => h.sub (by (repeat (first | exact Out.nil _ | (refine Out.cons (by (repeat (first | exact Take.here _ _ | apply Take.there))) ?_)))))
def lessL (l : List Int) : List Int := l.map fun x => max 0 (x - 1)
set_option maxHeartbeats 1000000 in
theorem rless_any (l : List Int) (A : Option Addr) (ca : Nat) (w : World) (hl : SlAt encI 1 w A l) (hlen : l.length ≤ 12) (hb : ∀ x ∈ l, -1000000 ≤ x ∧ x ≤ 1000000) :
    Ret Tryd.prog 45 [.slice A l.length ca] w (fun p : Option Addr × Nat => .slice p.1 (lessL l).length p.2) (fun p => [.row encI 1 3 (.slice p.1 (lessL l).length p.2) (lessL l)]) (fun _ => True) := by
  (refine ret_enter (n := 21) Tryd.func45 rfl rfl rfl ?_)
  (repeat' (first | ((with_reducible refine isOps ?_); first | refine u_assign rfl rfl rfl rfl rfl ?_) | (with_reducible first | refine u_seq ?_ | refine u_region ?_ | refine u_nil ?_ | refine u_then_n ?_ | refine u_block ?_)))
  refine u_rowNil (enc := encI) (k := 1) (e := 3) ?_
  refine u_loopP (ι := Nat × Option Addr × Nat) [0] rfl (fun p => p.1 ≤ l.length) (fun p => [(4, .int .i64 (p.1 : Int)), (3, .slice p.2.1 (lessL (l.take p.1)).length p.2.2)]) (fun p => [.row encI 1 3 (.slice p.2.1 (lessL (l.take p.1)).length p.2.2) (lessL (l.take p.1))]) (fun p => l.length - p.1) (0, none, 0) (Nat.zero_le _) (by (first | exact fun _ _ h => lk_nil h | (repeat (first | exact (fun _ _ h => lk_nil h) | (refine lk_sub rfl ?_))))) (by (repeat (first | exact Out.nil _ | (refine Out.cons (by (repeat (first | exact Take.here _ _ | apply Take.there))) ?_)))) ?_
  rintro ⟨i, A1, c1⟩ hi
  simp only at hi
  simp only [zipR, List.cons_append, List.nil_append]
  by_cases hlt : i < l.length
  · obtain ⟨b1, o1, rfl, _, _⟩ := hl.at_ hlt
    have : InS w b1 o1 encI 1 l := ⟨hl⟩
    have : GetI l i l[i] := ⟨by simp [hlt]⟩
    have hbx := hb l[i] (List.getElem_mem hlt)
    have e1 : lessL (l.take (i + 1)) = lessL (l.take i) ++ [max 0 (l[i] - 1)] := by unfold lessL; rw [List.take_add_one, List.getElem?_eq_getElem hlt, List.map_append]; rfl
    have hll : (lessL (l.take i)).length = i := by simp [lessL]; omega
    generalize l[i] = x at *
    (repeat' (first | ((with_reducible refine isOps ?_); first | refine u_move rfl rfl rfl rfl rfl ?_ | refine u_assign rfl rfl rfl rfl rfl ?_ | (refine x_load rfl rfl rfl rfl rfl ?_; refine ⟨_, rfl, ?_⟩) | (refine u_cmp rfl rfl rfl rfl rfl rfl rfl (fun h => ?_) (fun h => ?_) <;> (dsimp only [cmpP] at h; (try (exfalso; omega)))) | (refine u_append (enc := encI) [_] rfl rfl rfl rfl rfl (by (repeat (first | exact Take.here _ _ | apply Take.there))) rfl rfl (src_one (by exact rfl)) (by refine ⟨?_, by decide⟩; (try simp only [List.length_append, List.length_cons, List.length_nil]); omega) (fun A' c' => ?_)) | refine u_add1 rfl rfl rfl rfl rfl rfl (by omega) ?_ | refine u_sub rfl rfl rfl rfl rfl rfl (IntWalk.i64_in _ (by omega)) ?_ | refine u_index rfl rfl rfl rfl rfl rfl rfl (by omega) ?_ | refine u_len rfl rfl rfl rfl rfl ?_ | (refine x_buildSlice rfl rfl rfl rfl rfl ?_; refine ⟨rfl, _, rfl, fun b => ?_⟩) | refine u_max rfl rfl rfl rfl rfl rfl ?_) | (with_reducible first | refine u_seq ?_ | refine u_region ?_ | refine u_nil ?_ | refine u_then_n ?_ | refine u_skip ?_ | refine u_block ?_ | refine u_in_n ?_) | ((with_reducible refine u_cond_t ?_ ?_); (· exact rfl))))
    refine u_again (i + 1, A', c') (by simp only; omega) (by simp only; omega) (by simp only [e1]; (first | exact fun _ _ h => lk_nil h | (repeat (first | exact (fun _ _ h => lk_nil h) | (refine lk_sub rfl ?_))))) ?_
    simp only [e1]
    (repeat (first | exact Out.nil _ | (refine Out.cons (by (repeat (first | exact Take.here _ _ | apply Take.there))) ?_)))
  · obtain rfl : i = l.length := by omega
    rw [List.take_length]
    (repeat' (first | ((with_reducible refine isOps ?_); first | refine u_move rfl rfl rfl rfl rfl ?_ | refine u_assign rfl rfl rfl rfl rfl ?_ | (refine u_cmp rfl rfl rfl rfl rfl rfl rfl (fun h => ?_) (fun h => ?_) <;> (dsimp only [cmpP] at h; (try (exfalso; omega)))) | refine u_len rfl rfl rfl rfl rfl ?_) | (with_reducible first | refine u_seq ?_ | refine u_region ?_ | refine u_nil ?_ | refine u_then_n ?_ | refine u_ret ?_ | refine u_exit ?_ | refine u_in_same ?_ | refine u_then_e ?_) | ((with_reducible refine u_cond_f ?_ ?_); (· exact rfl))))
    exact u_done (by (exact ResL.cons (by exact Res1.tmp rfl) ResL.nil)) (A1, c1) trivial rfl (fun _ h => h.sub (by (repeat (first | exact Out.nil _ | (refine Out.cons (by (repeat (first | exact Take.here _ _ | apply Take.there))) ?_)))))
end Go.Proofs.YtdigopgncfhiaaaDoor
/- Ice: a plan, in plain Lean. -/
namespace Go.Proofs.YtdigopgncfhiaaaDoor
open Go.RowKit
set_option linter.unusedSimpArgs false
set_option linter.unusedVariables false
/-- what is left to do, and the plan so far -/
structure PS where
  nds : List (List Int)
  may : List (List Bool)
  hands : List Int
  out : List (List Int)
/-- may hour h spray bed i -/
def takeP (s : PS) (h i : Nat) : Bool := (s.may.getD i []).getD h false && (decide (0 < s.hands.getD h 0) && decide (0 < Flow.maxL (s.nds.getD i [])))
def mayO (s : PS) (h i : Nat) : List (List Bool) := s.may.set i ((s.may.getD i []).set h false)
def ndsO (s : PS) (i : Nat) : List (List Int) := s.nds.set i (lessL (s.nds.getD i []))
def handsO (s : PS) (h : Nat) : List Int := s.hands.set h (s.hands.getD h 0 - 1)
def outO (s : PS) (h i : Nat) : List (List Int) := s.out.set h (s.out.getD h [] ++ [(i : Int)])
def stepP (h i : Nat) (s : PS) : PS :=
  if takeP s h i then
    if canB (ndsO s i) (mayO s h i) (handsO s h) then ⟨ndsO s i, mayO s h i, handsO s h, outO s h i⟩ else ⟨s.nds, mayO s h i, s.hands, s.out⟩
  else ⟨s.nds, mayO s h i, s.hands, s.out⟩
def stepsP (h : Nat) : Nat → PS → PS
  | 0, s => s
  | i + 1, s => stepP h i (stepsP h i s)
def hoursP (nb : Nat) : Nat → PS → PS
  | 0, s => s
  | h + 1, s => stepsP h nb (hoursP nb h s)
def startP (c : Cov) : PS := ⟨needsL c, mayL c, handsL c, List.replicate c.hours.length []⟩
def planX (c : Cov) : List (List Int) × Int :=
  if errI c = 0 then
    if canB (needsL c) (mayL c) (handsL c) then ((hoursP c.beds.length c.hours.length (startP c)).out, 0) else ([], 8)
  else ([], errI c)
/-- a row of needs: none falls -/
structure NRow (nh : Nat) (r : List Int) : Prop where
  len : r.length = nh
  big : ∀ x ∈ r, 0 ≤ x ∧ x ≤ 100000
  up : r.Pairwise (· ≤ ·)
theorem NRow.less {nh : Nat} {r : List Int} (h : NRow nh r) : NRow nh (lessL r) := by
  refine ⟨by simp [lessL, h.len], fun x hx => ?_, ?_⟩
  · obtain ⟨y, hy, rfl⟩ := List.mem_map.1 hx
    have := h.big y hy
    omega
  · unfold lessL
    rw [List.pairwise_map]
    exact h.up.imp fun hab => by omega
/-- the greatest is the last -/
theorem NRow.max {nh : Nat} {r : List Int} (h : NRow nh r) (h0 : 0 < nh) : Flow.maxL r = r.getD (nh - 1) 0 := by
  have hl := h.len
  have hne : r ≠ [] := fun e => by rw [e] at hl; simp at hl; omega
  have hlt : nh - 1 < r.length := by omega
  rw [Flow.getD_lt hlt]
  have h1 := Flow.maxL_ge (List.getElem_mem hlt)
  obtain ⟨j, hj, e⟩ := List.getElem_of_mem (Flow.maxL_mem hne)
  have h2 : r[j] ≤ r[nh - 1] := by
    rcases Nat.lt_or_ge j (nh - 1) with h9 | h9
    · exact List.pairwise_iff_getElem.1 h.up j (nh - 1) hj hlt h9
    · have : j = nh - 1 := by omega
      subst this; exact Int.le_refl _
  omega
structure PSok (nb nh h i : Nat) (s : PS) : Prop where
  nl : s.nds.length = nb
  ml : s.may.length = nb
  hl : s.hands.length = nh
  ol : s.out.length = nh
  nr : ∀ r ∈ s.nds, NRow nh r
  mr : ∀ r ∈ s.may, r.length = nh
  hr : ∀ x ∈ s.hands, 0 ≤ x ∧ x ≤ 1000
  or_ : ∀ k, (s.out.getD k []).length ≤ if k < h then nb else if k = h then i else 0
theorem mem_set_cases {α : Type} {l : List α} {i : Nat} {a x : α} (h : x ∈ l.set i a) : x = a ∨ x ∈ l := by
  rcases List.mem_or_eq_of_mem_set h with h | h
  · exact .inr h
  · exact .inl h
theorem getD_set {α : Type} {l : List α} {i k : Nat} {a d : α} (hi : i < l.length) : (l.set i a).getD k d = if k = i then a else l.getD k d := by
  rw [List.getD_eq_getElem?_getD, List.getElem?_set, List.getD_eq_getElem?_getD]
  by_cases e : i = k
  · subst e; simp [hi]
  · rw [if_neg e, if_neg (fun h => e h.symm)]
section
variable {nb nh h i : Nat} {s : PS}
theorem PSok.mayO_ok (ok : PSok nb nh h i s) (hi : i < nb) : (mayO s h i).length = nb ∧ ∀ r ∈ mayO s h i, r.length = nh := by
  refine ⟨by simp [mayO, ok.ml], fun r hr => ?_⟩
  rcases mem_set_cases hr with rfl | hr
  · rw [List.length_set]
    have := ok.ml
    rw [Flow.getD_lt (by omega)]
    exact ok.mr _ (List.getElem_mem _)
  · exact ok.mr r hr
theorem PSok.ndsO_ok (ok : PSok nb nh h i s) (hi : i < nb) : (ndsO s i).length = nb ∧ ∀ r ∈ ndsO s i, NRow nh r := by
  refine ⟨by simp [ndsO, ok.nl], fun r hr => ?_⟩
  rcases mem_set_cases hr with rfl | hr
  · have := ok.nl
    rw [Flow.getD_lt (by omega)]
    exact (ok.nr _ (List.getElem_mem _)).less
  · exact ok.nr r hr
theorem PSok.handsO_ok (ok : PSok nb nh h i s) (hh : h < nh) (ht : takeP s h i = true) : (handsO s h).length = nh ∧ ∀ x ∈ handsO s h, 0 ≤ x ∧ x ≤ 1000 := by
  refine ⟨by simp [handsO, ok.hl], fun x hx => ?_⟩
  rcases mem_set_cases hx with rfl | hx
  · have := ok.hl
    unfold takeP at ht
    simp only [Bool.and_eq_true, decide_eq_true_eq] at ht
    have h1 := ht.2.1
    rw [Flow.getD_lt (by omega)] at h1 ⊢
    have := ok.hr _ (List.getElem_mem (l := s.hands) (n := h) (by omega))
    omega
  · exact ok.hr x hx
theorem PSok.step (ok : PSok nb nh h i s) (hi : i < nb) (hh : h < nh) : PSok nb nh h (i + 1) (stepP h i s) := by
  have keep : ∀ k, (s.out.getD k []).length ≤ if k < h then nb else if k = h then i + 1 else 0 := fun k => by
    have := ok.or_ k
    split at this
    · rw [if_pos (by assumption)]; exact this
    · rw [if_neg (by assumption)]
      split at this
      · rw [if_pos (by assumption)]; omega
      · rw [if_neg (by assumption)]; exact this
  have hm := ok.mayO_ok hi
  unfold stepP
  cases ht : takeP s h i with
  | false => rw [if_neg (by simp)]; exact ⟨ok.nl, hm.1, ok.hl, ok.ol, ok.nr, hm.2, ok.hr, keep⟩
  | true =>
    rw [if_pos rfl]
    have hn := ok.ndsO_ok hi
    have hd := ok.handsO_ok hh ht
    split
    · refine ⟨hn.1, hm.1, hd.1, by simp [outO, ok.ol], hn.2, hm.2, hd.2, fun k => ?_⟩
      simp only [outO]
      rw [getD_set (by rw [ok.ol]; exact hh)]
      by_cases e : k = h
      · subst e
        have := ok.or_ k
        rw [if_neg (by omega), if_pos rfl] at this
        rw [if_pos rfl, if_neg (by omega), if_pos rfl, List.length_append]
        simp only [List.length_cons, List.length_nil]; omega
      · rw [if_neg e]; exact keep k
    · exact ⟨ok.nl, hm.1, ok.hl, ok.ol, ok.nr, hm.2, ok.hr, keep⟩
theorem PSok.next (ok : PSok nb nh h nb s) : PSok nb nh (h + 1) 0 s :=
  ⟨ok.nl, ok.ml, ok.hl, ok.ol, ok.nr, ok.mr, ok.hr, fun k => by
    have := ok.or_ k
    by_cases h1 : k < h
    · rw [if_pos h1] at this; rw [if_pos (by omega)]; exact this
    · rw [if_neg h1] at this
      by_cases h2 : k = h
      · rw [if_pos h2] at this; rw [if_pos (by omega)]; exact this
      · rw [if_neg h2] at this; omega⟩
end
theorem needRow_up (c : Cov) (z : Bed) (m : Nat) : (needRow c z m).Pairwise (· ≤ ·) := by
  unfold needRow
  rw [List.pairwise_map]
  refine List.pairwise_lt_range.imp fun {a b} hab => ?_
  have := needG_le (c := c) (z := z) (a + 1) (b - a)
  rwa [show a + 1 + (b - a) = b + 1 by omega] at this
theorem startP_ok {c : Cov} (hf : Fine c) (hs : Small c) (hcr : ∀ u ∈ c.hours, 0 ≤ u.crew ∧ u.crew ≤ 1000) : PSok c.beds.length c.hours.length 0 0 (startP c) := by
  have h3 := hs.h
  refine ⟨by simp [startP, needsL], by simp [startP, mayL], by simp [startP, handsL], by simp [startP], fun r hr => ?_, fun r hr => ?_, fun x hx => ?_, fun k => ?_⟩
  · obtain ⟨z, hz, rfl⟩ := List.mem_map.1 hr
    refine ⟨needRow_len, fun x hx => ?_, needRow_up c z _⟩
    obtain ⟨k, hk, rfl⟩ := List.mem_map.1 hx
    have := needG_in hf hz (k + 1) (by have := List.mem_range.1 hk; omega)
    have := List.mem_range.1 hk
    omega
  · simp [startP, mayL] at hr
    rw [hr.2]; simp
  · obtain ⟨u, hu, rfl⟩ := List.mem_map.1 hx
    have := hcr u hu
    unfold handO; split <;> omega
  · simp only [startP, Nat.not_lt_zero, if_false]
    rw [List.getD_eq_getElem?_getD, List.getElem?_replicate]
    split <;> simp
end Go.Proofs.YtdigopgncfhiaaaDoor
