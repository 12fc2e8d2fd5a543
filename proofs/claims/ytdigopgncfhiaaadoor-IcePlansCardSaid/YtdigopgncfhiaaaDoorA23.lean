/- Ice: a plan by the program: the walk (under way). -/
import Derived.Test.YtdigopgncfhiaaaDoorA22
import Derived.Test.YtdigopgncfhiaaaDoorA6
import Derived.Test.YtdigopgncfhiaaaDoorA1
namespace Go.Proofs.YtdigopgncfhiaaaDoor.Two
open Go.RowKit
set_option linter.unusedSimpArgs false
set_option linter.unusedVariables false
set_option maxRecDepth 20000
set_option maxHeartbeats 8000000 in
theorem iplan_any (c : Cov) (A : Option Addr) (ca : Nat) (B : Option Addr) (cb : Nat) (C : Option Addr) (cc : Nat) (w : World) (h : CovAt w c A B C) (hs : Small c) (hG : InC w 0 0 limC) (h0 : errI c = 0) (hcan : canB (needsL c) (mayL c) (handsL c) = true) :
    Ret Tryd.prog 10 [vCov c A ca B cb C cc] w (fun p : Nat × List (SlOf Int) => .tuple #[.slice (some ⟨p.1, 0, none⟩) c.hours.length c.hours.length, .int .i64 0]) (fun p => [.tabG encOf (rowOf encI 1 3) p.1 p.2]) (fun p => p.2.map (·.xs) = (planX c).1) := by
  have h4 := hs.b; have h5 := hs.h
  have hb := h.b; have hh := h.h
  have hf := fine_of h0
  have hh1 := hf.hours
  rw [inB_iff] at hh1
  have h1 := fun W (hb : Below w.heap.size w W) => iopen_ok c A ca B cb C cc W (h.below hb) hs h0
  have h2 := fun W (hb : Below w.heap.size w W) g (hr : InC W g 0 (cellsCov c A ca B cb C cc)) => Two.iroster_any c A ca B cb C cc g W hr (hG.below hb) (h.below hb) hs hf
  have hP : (planX c).1 = (hoursP c.beds.length c.hours.length (startP c)).out := by unfold planX; rw [if_pos h0, if_pos hcan]
  have hcr : ∀ u ∈ c.hours, 0 ≤ u.crew ∧ u.crew ≤ 1000 := fun u hu => by
    have h9 := hf.hour u hu
    unfold hourOk at h9
    simp only [Bool.and_eq_true, inB_iff] at h9
    omega
  have ok0 := startP_ok hf hs hcr
  have hbl : 0 < c.beds.length := by
    have hv : valid c.t = true := by
      cases hv : valid c.t with
      | true => rfl
      | false => unfold errI at h0; rw [hv] at h0; simp at h0
    have := (valid_len hv).1
    have := hf.beds
    omega
  rw [hP]
  unfold vCov at h1 ⊢
  unfold cellsCov at h1 h2 ⊢
  (refine ret_enter (n := 140) Tryd.func10 rfl rfl rfl ?_)
  (repeat' (first | ((with_reducible refine isOps ?_); first | refine u_move rfl rfl rfl rfl rfl ?_ | refine u_assign rfl rfl rfl rfl rfl ?_ | (refine x_load rfl rfl rfl rfl rfl ?_; refine ⟨_, rfl, ?_⟩) | (refine u_cmp rfl rfl rfl rfl rfl rfl rfl (fun h => ?_) (fun h => ?_) <;> (dsimp only [cmpP] at h; (try (exfalso; omega)))) | (refine u_call rfl rfl rfl rfl rfl rfl (fun _ _ q => h1 _ q.below) ?_; rintro g -; dsimp only [List.cons_append, List.nil_append]) | (refine u_call rfl rfl rfl rfl rfl rfl (fun _ _ q => h2 _ q.below g (cells_by q.own (Below.refl _ _) rfl)) ?_; rintro ⟨⟨gn, L⟩, ⟨gm, M⟩, gh⟩ ⟨hL, hM⟩; dsimp only [List.cons_append, List.nil_append]) | refine u_extract rfl rfl rfl rfl rfl rfl ?_ | (refine x_store rfl rfl rfl rfl rfl ?_; refine And.intro rfl (And.intro (by first | decide | exact Nat.le_of_ble_eq_true rfl | (simp; omega)) ⟨_, rfl, ?_⟩)) | (refine u_alloc rfl rfl rfl rfl (fun b => ?_)) | (refine u_box rfl rfl rfl rfl rfl rfl (fun b => ?_))) | (with_reducible first | refine u_seq ?_ | refine u_region ?_ | refine u_nil ?_ | refine u_then_n ?_ | refine u_skip ?_) | ((with_reducible refine u_cond_f ?_ ?_); (· exact rfl))))
  simp only at hL hM
  have hca := fun (W : World) (a1 : TabAt encI 1 W (some ⟨gn, 0, none⟩) L) (a2 : TabAt encBl 1 W (some ⟨gm, 0, none⟩) M) (a3 : SlAt encI 1 W (some ⟨gh, 0, none⟩) (handsL c)) => ifeas_can ok0 hL hM (by omega) (by omega) (by omega) hbl _ _ _ c.beds.length c.beds.length c.hours.length W a1 a2 a3
  rw [show canB (startP c).nds (startP c).may (startP c).hands = true from hcan] at hca
  unfold cellsRo at hca
  (repeat' (first | ((with_reducible refine isOps ?_); first | refine u_move rfl rfl rfl rfl rfl ?_ | refine u_assign rfl rfl rfl rfl rfl ?_ | (refine x_load rfl rfl rfl rfl rfl ?_; refine ⟨_, rfl, ?_⟩) | refine u_field rfl rfl rfl rfl rfl ?_ | refine u_gives rfl rfl rfl rfl rfl rfl (fun _ _ q => hca _ (tab_at q.own (by (repeat (first | exact Take.here _ _ | apply Take.there)))) (tab_at q.own (by (repeat (first | exact Take.here _ _ | apply Take.there)))) (row_at q.own (by (repeat (first | exact Take.here _ _ | apply Take.there))))) ?_ | refine u_makeC rfl rfl rfl rfl rfl rfl rfl rfl rfl rfl rfl (by omega) (fun go => ?_) | refine u_not rfl rfl rfl rfl rfl ?_ | refine u_len rfl rfl rfl rfl rfl ?_) | (with_reducible first | refine u_seq ?_ | refine u_region ?_ | refine u_nil ?_ | refine u_then_n ?_ | refine u_skip ?_ | refine u_block ?_) | ((with_reducible refine u_cond_f ?_ ?_); (· exact rfl))))
  rename_i b1
  obtain ⟨b6, hb6⟩ : ∃ x, x = b := ⟨_, rfl⟩
  subst hb6
  refine u_tabNew (enc := encI) (k := 1) (e := 3) (Take.here _ _) ?_
  refine u_loopP (ι := PM) [1, 6, 7, 32] rfl (fun q => q.k ≤ c.hours.length ∧ PMat q (hoursP c.beds.length q.k (startP c))) (fun q => [(33, .int .i64 (q.k : Int))]) (fun q => [.tabG encOf (rowOf encI 1 3) gn q.nd, .tabG encOf (rowOf encBl 1 4) gm q.my, .row encI 1 3 (.slice (some ⟨gh, 0, none⟩) c.hours.length c.hours.length) ((hoursP c.beds.length q.k (startP c)).hands), .tabG encOf (rowOf encI 1 3) go q.ot, .blk b1 (cellsCov c A ca B cb C cc), .blk b6 (cellsRo (some ⟨gn, 0, none⟩) c.beds.length c.beds.length (some ⟨gm, 0, none⟩) c.beds.length c.beds.length (some ⟨gh, 0, none⟩) c.hours.length c.hours.length)]) (fun q => c.hours.length - q.k) ⟨0, L, M, List.replicate c.hours.length nilOf⟩ ⟨Nat.zero_le _, hL, hM, by simp [hoursP, startP, nilOf]⟩ (by (first | exact fun _ _ h => lk_nil h | (repeat (first | exact (fun _ _ h => lk_nil h) | (refine lk_sub rfl ?_))))) (by (repeat (first | exact Out.nil _ | (refine Out.cons (by (repeat (first | exact Take.here _ _ | apply Take.there))) ?_)))) ?_
  clear hca hL hM L M
  rintro ⟨y, L, M, O⟩ ⟨hy, hL, hM, hO⟩
  simp only at hy hL hM hO
  simp only [zipR, cellsCov, cellsRo, List.cons_append, List.nil_append]
  by_cases hyl : y < c.hours.length
  · have okh := hours_ok ok0 y hy
    (repeat' (first | ((with_reducible refine isOps ?_); first | refine u_move rfl rfl rfl rfl rfl ?_ | refine u_assign rfl rfl rfl rfl rfl ?_ | (refine x_load rfl rfl rfl rfl rfl ?_; refine ⟨_, rfl, ?_⟩) | refine u_field rfl rfl rfl rfl rfl ?_ | (refine u_cmp rfl rfl rfl rfl rfl rfl rfl (fun h => ?_) (fun h => ?_) <;> (dsimp only [cmpP] at h; (try (exfalso; omega)))) | refine u_len rfl rfl rfl rfl rfl ?_) | (with_reducible first | refine u_seq ?_ | refine u_region ?_ | refine u_nil ?_ | refine u_then_n ?_ | refine u_skip ?_ | refine u_block ?_) | ((with_reducible refine u_cond_t ?_ ?_); (· exact rfl))))
    refine u_loopP (ι := PM) [1, 6, 7, 8, 32, 33, 38] rfl (fun q => q.k ≤ c.beds.length ∧ PMat q (stepsP y q.k (hoursP c.beds.length y (startP c)))) (fun q => [(39, .int .i64 (q.k : Int))]) (fun q => [.tabG encOf (rowOf encI 1 3) gn q.nd, .tabG encOf (rowOf encBl 1 4) gm q.my, .row encI 1 3 (.slice (some ⟨gh, 0, none⟩) c.hours.length c.hours.length) ((stepsP y q.k (hoursP c.beds.length y (startP c))).hands), .tabG encOf (rowOf encI 1 3) go q.ot, .blk b1 (cellsCov c A ca B cb C cc), .blk b6 (cellsRo (some ⟨gn, 0, none⟩) c.beds.length c.beds.length (some ⟨gm, 0, none⟩) c.beds.length c.beds.length (some ⟨gh, 0, none⟩) c.hours.length c.hours.length)]) (fun q => c.beds.length - q.k) ⟨0, L, M, O⟩ ⟨Nat.zero_le _, hL, hM, hO⟩ (by (first | exact fun _ _ h => lk_nil h | (repeat (first | exact (fun _ _ h => lk_nil h) | (refine lk_sub rfl ?_))))) (by (repeat (first | exact Out.nil _ | (refine Out.cons (by (repeat (first | exact Take.here _ _ | apply Take.there))) ?_)))) ?_
    clear hL hM hO L M O
    rintro ⟨i, L, M, O⟩ ⟨hi, hL, hM, hO⟩
    simp only at hi hL hM hO
    simp only [zipR, cellsCov, cellsRo, List.cons_append, List.nil_append]
    by_cases hil : i < c.beds.length
    · have oki := steps_ok okh hyl i hi
      have hnext : stepsP y (i + 1) (hoursP c.beds.length y (startP c)) = stepP y i (stepsP y i (hoursP c.beds.length y (startP c))) := rfl
      generalize stepsP y i (hoursP c.beds.length y (startP c)) = st at *
      have hLl : L.length = c.beds.length := by have := congrArg List.length hL; rw [oki.nl] at this; simpa using this
      have hMl : M.length = c.beds.length := by have := congrArg List.length hM; rw [oki.ml] at this; simpa using this
      have hHl := oki.hl
      obtain ⟨s, hs1⟩ : ∃ s, L[i]? = some s := ⟨_, List.getElem?_eq_getElem (by omega)⟩
      obtain ⟨t, ht1⟩ : ∃ t, M[i]? = some t := ⟨_, List.getElem?_eq_getElem (by omega)⟩
      have hsr : NRow c.hours.length s.xs := oki.nr _ (by rw [← hL]; exact List.mem_map_of_mem (List.mem_of_getElem? hs1))
      have htl : t.xs.length = c.hours.length := oki.mr _ (by rw [← hM]; exact List.mem_map_of_mem (List.mem_of_getElem? ht1))
      have gs1 : st.nds.getD i [] = s.xs := by rw [← hL]; exact getD_map hs1
      have gt1 : st.may.getD i [] = t.xs := by rw [← hM]; exact getD_map ht1
      have hsl := hsr.len
      have htk : takeP st y i = (t.xs.getD y false && (decide (0 < st.hands.getD y 0) && decide (0 < Flow.maxL s.xs))) := by unfold takeP; rw [gs1, gt1]
      obtain ⟨sA, sx, sc⟩ := s
      obtain ⟨tA, tx, tc⟩ := t
      simp only at hsr htl gs1 gt1 hsl htk
      (repeat' (first | ((with_reducible refine isOps ?_); first | refine u_move rfl rfl rfl rfl rfl ?_ | refine u_assign rfl rfl rfl rfl rfl ?_ | (refine x_load rfl rfl rfl rfl rfl ?_; refine ⟨_, rfl, ?_⟩) | refine u_field rfl rfl rfl rfl rfl ?_ | (refine u_cmp rfl rfl rfl rfl rfl rfl rfl (fun h => ?_) (fun h => ?_) <;> (dsimp only [cmpP] at h; (try (exfalso; omega)))) | refine u_index rfl rfl rfl rfl rfl rfl rfl (by omega) ?_) | (with_reducible first | refine u_seq ?_ | refine u_region ?_ | refine u_nil ?_ | refine u_then_n ?_ | refine u_skip ?_ | refine u_block ?_) | ((with_reducible refine u_cond_t ?_ ?_); (· exact rfl))))
      refine u_tabOpen i hs1 (by (repeat (first | exact Take.here _ _ | apply Take.there))) ?_
      refine u_rowSome (A := sA) (xs := sx) (k := 1) (e := 3) (enc := encI) (m := sx.length) (c := sc) (Take.there _ (Take.here _ _)) (by omega) ?_
      rintro gs rfl
      refine u_tabOpen i ht1 (by (repeat (first | exact Take.here _ _ | apply Take.there))) ?_
      refine u_rowSome (A := tA) (xs := tx) (k := 1) (e := 4) (enc := encBl) (m := tx.length) (c := tc) (Take.there _ (Take.here _ _)) (by omega) ?_
      rintro gt rfl
      simp only [rowOf]
      have : GetI (L.set i ⟨some ⟨gs, 0, none⟩, sx, sc⟩) i ⟨some ⟨gs, 0, none⟩, sx, sc⟩ := ⟨List.getElem?_set_self (by omega)⟩
      have : GetI (M.set i ⟨some ⟨gt, 0, none⟩, tx, tc⟩) i ⟨some ⟨gt, 0, none⟩, tx, tc⟩ := ⟨List.getElem?_set_self (by omega)⟩
      have hmaxc := fun W hA => max_any sx (some ⟨gs, 0, none⟩) sc W hA (by omega) (by omega)
      have : GetI tx y (tx.getD y false) := ⟨by rw [Flow.getD_lt (by omega)]; simp⟩
      have : GetI st.hands y (st.hands.getD y 0) := ⟨by rw [Flow.getD_lt (by omega)]; simp⟩
      generalize hz : tx.getD y false = z at *
      generalize hk : st.hands.getD y 0 = kk at *
      generalize hmm : Flow.maxL sx = mm at *
      cases z
      · (repeat' (first | ((with_reducible refine isOps ?_); first | refine u_move rfl rfl rfl rfl rfl ?_ | refine u_assign rfl rfl rfl rfl rfl ?_ | (refine x_load rfl rfl rfl rfl rfl ?_; refine ⟨_, rfl, ?_⟩) | refine u_field rfl rfl rfl rfl rfl ?_ | refine u_pick rfl rfl rfl rfl rfl rfl ?_ | refine u_not_wanted rfl rfl rfl ?_ | refine u_storeR (enc := encBl) (i := y) false rfl rfl rfl rfl rfl rfl rfl rfl (by omega) ?_ | refine u_index (I := y) rfl rfl rfl rfl rfl rfl rfl (by dsimp only; omega) ?_ | refine u_not rfl rfl rfl rfl rfl ?_ | refine u_add1 rfl rfl rfl rfl rfl rfl (by omega) ?_ | refine u_index rfl rfl rfl rfl rfl rfl rfl (by omega) ?_) | (with_reducible first | refine u_seq ?_ | refine u_region ?_ | refine u_nil ?_ | refine u_then_n ?_ | refine u_exit ?_ | refine u_in_same ?_ | refine u_then_e ?_) | ((with_reducible refine u_cond_t ?_ ?_); (· exact rfl))))
        have hstep : stepP y i st = ⟨st.nds, mayO st y i, st.hands, st.out⟩ := by unfold stepP; rw [htk, if_neg (by simp)]
        refine u_tabShutR i (tx.set y false) (by simp) ht1 (by (repeat (first | exact Take.here _ _ | apply Take.there))) (by (repeat (first | exact Take.here _ _ | apply Take.there))) (by (repeat (first | exact Take.here _ _ | apply Take.there))) ?_
        refine u_tabShut0 i (re := rowOf encI 1 3) hs1 (by (repeat (first | exact Take.here _ _ | apply Take.there))) (by (repeat (first | exact Take.here _ _ | apply Take.there))) (by (repeat (first | exact Take.here _ _ | apply Take.there))) ?_
        refine u_again (ι := PM) ⟨i + 1, L, M.set i ⟨some ⟨gt, 0, none⟩, tx.set y false, tc⟩, O⟩ (by
          refine ⟨by simp only; omega, ?_⟩
          simp only
          rw [hnext, hstep]
          exact ⟨hL, by simp only; rw [List.map_set, hM]; unfold mayO; rw [gt1], hO⟩) (by simp only; omega) (by (first | exact fun _ _ h => lk_nil h | (repeat (first | exact (fun _ _ h => lk_nil h) | (refine lk_sub rfl ?_))))) (by simp only [hnext, hstep]; (repeat (first | exact Out.nil _ | (refine Out.cons (by (repeat (first | exact Take.here _ _ | apply Take.there))) ?_))))
      · by_cases hk0 : 0 < kk
        · by_cases hm0 : 0 < mm
          · have htk1 : takeP st y i = true := by rw [htk]; simp [hk0, hm0]
            have hn1 := oki.ndsO_ok hil
            have hm1 := oki.mayO_ok (h := y) hil
            have hh1' := oki.handsO_ok hyl htk1
            have hkb := oki.hr kk (by rw [← hk, Flow.getD_lt (by omega)]; exact List.getElem_mem _)
            (repeat' (first | ((with_reducible refine isOps ?_); first | refine u_move rfl rfl rfl rfl rfl ?_ | refine u_assign rfl rfl rfl rfl rfl ?_ | (refine x_load rfl rfl rfl rfl rfl ?_; refine ⟨_, rfl, ?_⟩) | refine u_field rfl rfl rfl rfl rfl ?_ | refine u_pick rfl rfl rfl rfl rfl rfl ?_ | (refine u_cmp rfl rfl rfl rfl rfl rfl rfl (fun h => ?_) (fun h => ?_) <;> (dsimp only [cmpP] at h; (try (exfalso; omega)))) | refine u_gives rfl rfl rfl rfl rfl rfl (fun _ _ q => hmaxc _ (row_at q.own (by (repeat (first | exact Take.here _ _ | apply Take.there))))) ?_ | refine u_storeR (enc := encBl) (i := y) false rfl rfl rfl rfl rfl rfl rfl rfl (by omega) ?_ | refine u_index (I := y) rfl rfl rfl rfl rfl rfl rfl (by dsimp only; omega) ?_ | refine u_storeL (hd := encOf) (i := i) (s := ⟨some ⟨gs, 0, none⟩, sx, sc⟩) nilOf rfl rfl rfl rfl rfl (by simp [encOf, nilOf, Value.cells]) (by (repeat (first | exact Take.here _ _ | apply Take.there))) (by omega) ?_ | refine u_not rfl rfl rfl rfl rfl ?_ | refine u_index rfl rfl rfl rfl rfl rfl rfl (by omega) ?_ | refine u_len rfl rfl rfl rfl rfl ?_) | (with_reducible first | refine u_seq ?_ | refine u_region ?_ | refine u_nil ?_ | refine u_then_n ?_ | refine u_skip ?_ | refine u_block ?_) | ((with_reducible refine u_cond_f ?_ ?_); (· exact rfl))))
            refine u_tabShutR i (tx.set y false) (by simp) ht1 (by (repeat (first | exact Take.here _ _ | apply Take.there))) (by (repeat (first | exact Take.here _ _ | apply Take.there))) (by (repeat (first | exact Take.here _ _ | apply Take.there))) ?_
            refine u_row_nil encI 1 3 ?_
            refine u_loopP (ι := Nat × SlOf Int) [1, 6, 7, 8, 9, 11, 32, 33, 38, 39, 85, 86] rfl (fun p => p.1 ≤ sx.length ∧ p.2.xs = lessL (sx.take p.1)) (fun p => [(87, .int .i64 (p.1 : Int))]) (fun p => [rowOf encI 1 3 p.2, .arr encOf 1 gn (L.set i p.2), .row encI 1 3 (.slice (some ⟨gs, 0, none⟩) sx.length sc) sx, .all ((L.eraseIdx i).map (rowOf encI 1 3)), .tabG encOf (rowOf encBl 1 4) gm (M.set i ⟨some ⟨gt, 0, none⟩, tx.set y false, tc⟩), .row encI 1 3 (.slice (some ⟨gh, 0, none⟩) c.hours.length c.hours.length) st.hands, .tabG encOf (rowOf encI 1 3) go O, .blk b1 (cellsCov c A ca B cb C cc), .blk b6 (cellsRo (some ⟨gn, 0, none⟩) c.beds.length c.beds.length (some ⟨gm, 0, none⟩) c.beds.length c.beds.length (some ⟨gh, 0, none⟩) c.hours.length c.hours.length)]) (fun p => sx.length - p.1) (0, nilOf) ⟨Nat.zero_le _, rfl⟩ (by (first | exact fun _ _ h => lk_nil h | (repeat (first | exact (fun _ _ h => lk_nil h) | (refine lk_sub rfl ?_))))) (by unfold cellsCov cellsRo; simp only [rowOf, nilOf, List.length_nil]; (repeat (first | exact Out.nil _ | (refine Out.cons (by (repeat (first | exact Take.here _ _ | apply Take.there))) ?_)))) ?_
            rintro ⟨j, sA2, sx2, sc2⟩ ⟨hj, hsx⟩
            simp only at hj hsx
            simp only [zipR, rowOf, cellsCov, cellsRo, List.cons_append, List.nil_append]
            by_cases hjl : j < sx.length
            · obtain ⟨x, hx⟩ : ∃ x, sx[j]? = some x := ⟨_, List.getElem?_eq_getElem hjl⟩
              have : GetI sx j x := ⟨hx⟩
              have hbx := hsr.big x (List.mem_of_getElem? hx)
              have : GetI (L.set i ⟨sA2, sx2, sc2⟩) i ⟨sA2, sx2, sc2⟩ := ⟨List.getElem?_set_self (by omega)⟩
              have hl2 : sx2.length ≤ 12 := by rw [hsx]; simp [lessL]; omega
              have e1 : sx2 ++ [max 0 (x - 1)] = lessL (sx.take (j + 1)) := by rw [hsx]; unfold lessL; rw [List.take_add_one, hx, List.map_append]; rfl
              (repeat' (first | ((with_reducible refine isOps ?_); first | refine u_assign rfl rfl rfl rfl rfl ?_ | (refine x_load rfl rfl rfl rfl rfl ?_; refine ⟨_, rfl, ?_⟩) | (refine u_cmp rfl rfl rfl rfl rfl rfl rfl (fun h => ?_) (fun h => ?_) <;> (dsimp only [cmpP] at h; (try (exfalso; omega)))) | refine u_index rfl rfl rfl rfl rfl rfl rfl (by omega) ?_) | (with_reducible first | refine u_seq ?_ | refine u_region ?_ | refine u_nil ?_ | refine u_then_n ?_ | refine u_skip ?_ | refine u_block ?_) | ((with_reducible refine u_cond_t ?_ ?_); (· exact rfl))))
              (refine u_chain [] [(12, 0, 0, [.row encI 1 3 (.slice sA2 sx2.length sc2) sx2])] [(12, 0, 0)] rfl (show ([12] : List Nat).Nodup by decide) (H0 := [.arr encOf 1 gn (L.set i ⟨sA2, sx2, sc2⟩), .row encI 1 3 (.slice (some ⟨gs, 0, none⟩) sx.length sc) sx, .all ((L.eraseIdx i).map (rowOf encI 1 3)), .tabG encOf (rowOf encBl 1 4) gm (M.set i ⟨some ⟨gt, 0, none⟩, tx.set y false, tc⟩), .row encI 1 3 (.slice (some ⟨gh, 0, none⟩) c.hours.length c.hours.length) st.hands, .tabG encOf (rowOf encI 1 3) go O, .blk b1 [.slice A c.t.length ca, .slice B c.beds.length cb, .slice C c.hours.length cc, .int .i64 c.wear.lo, .int .i64 c.wear.hi, .int .i64 c.layer.lo, .int .i64 c.layer.hi, .int .i64 c.rate, .int .i64 c.limit, .int .i64 c.base], .blk b6 [.slice (some ⟨gn, 0, none⟩) c.beds.length c.beds.length, .slice (some ⟨gm, 0, none⟩) c.beds.length c.beds.length, .slice (some ⟨gh, 0, none⟩) c.hours.length c.hours.length]]) (fun _ h => h.sub (by (repeat (first | exact Out.nil _ | (refine Out.cons (by (repeat (first | exact Take.here _ _ | apply Take.there))) ?_))))) (by kernel_rfl) [[], [true], [false, false], [false, false, false], [true, false, false, false], [false, false, false, false, false], [true, true, true, false, false, false], [true, true, true, true, false, false, false], [false, false, false, false, false, false, false, false], [true, false, false, false, false, false, false, false, false], [true, true, false, false, false, false, false, false, false, false], [true, true, true, false, false, false, false, false, false, false, false], [true, true, true, true, true, true, true, true, true, false, false, false], [true, true, true, true, true, true, true, true, true, true, true, true, true], [true, true, true, true, true, true, true, true, true, true, true, true, true, true]] (by kernel_rfl) (by kernel_rfl) (by kernel_rfl) (by kernel_rfl) (by kernel_rfl) ?_)
              (repeat' (first | (((with_reducible refine c_go ?_ ?_); (· exact rfl); refine ⟨_, fun G => (by (try simp (decide := true) only [vis, see, fltT, entsT, Nat.reduceAdd, Nat.reduceSub, if_true, if_false, List.set_cons_zero, List.set_cons_succ, List.set_nil, List.nil_append, List.cons_append]); rfl), ?_⟩); first | refine c_val _ (fun _ => e_move rfl rfl) (fun _ => rfl) rfl (by first | exact fun _ _ _ => rfl | (intro G G' h; simp (decide := true) only [h])) ?_ | refine c_val _ (fun _ => e_load' rfl rfl (by exact rfl)) (fun _ => rfl) rfl (by first | exact fun _ _ _ => rfl | (intro G G' h; simp (decide := true) only [h])) ?_ | (refine c_isField rfl ?_; refine c_val _ (fun _ => e_field rfl rfl) (fun _ => rfl) rfl (by first | exact fun _ _ _ => rfl | (intro G G' h; simp (decide := true) only [h])) ?_) | refine c_val _ (fun _ => e_sub rfl rfl rfl (IntWalk.i64_in _ (by omega))) (fun _ => rfl) rfl (by first | exact fun _ _ _ => rfl | (intro G G' h; simp (decide := true) only [h])) ?_ | refine c_val _ (fun _ => e_index rfl rfl rfl rfl (by omega)) (fun _ => rfl) rfl (by first | exact fun _ _ _ => rfl | (intro G G' h; simp (decide := true) only [h])) ?_ | refine c_val _ (fun _ => e_max rfl rfl rfl) (fun _ => rfl) rfl (by first | exact fun _ _ _ => rfl | (intro G G' h; simp (decide := true) only [h])) ?_ | refine c_buildSlice rfl (fun _ => rfl) rfl (fun _ => rfl) (by exact rfl) (by exact fun _ => rfl) (by first | exact fun _ _ _ => rfl | (intro G G' h; simp (decide := true) only [h])) ?_) | (refine c_appendI (enc := encI) (xs := sx2) (vx := .slice sA2 sx2.length sc2) [max 0 (x - 1)] List.mem_cons_self rfl rfl (fun _ => rfl) rfl (fun _ => rfl) (fun _ => rfl) rfl (fun G => (by (try simp (decide := true) only [vis, see, fltT, entsT, Nat.reduceAdd, Nat.reduceSub, if_true, if_false, List.set_cons_zero, List.set_cons_succ, List.set_nil, List.nil_append, List.cons_append]); rfl)) (fun _ W hW h => src_one (enc := encI) (by exact rfl) W hW h) ⟨by simp; omega, by decide⟩ ?_) | ((with_reducible refine c_tail ?_ ?_); (· exact rfl))))
              intro G
              simp only [regsT, List.nil_append, List.cons_append]
              refine u_own (H' := [.row encI 1 3 (.slice (G 12).A (sx2 ++ [max 0 (x - 1)]).length (G 12).m) (sx2 ++ [max 0 (x - 1)]), .blk (G 11).g (encI (max 0 (x - 1))), .arr encOf 1 gn (L.set i ⟨sA2, sx2, sc2⟩), .row encI 1 3 (.slice (some ⟨gs, 0, none⟩) sx.length sc) sx, .all ((L.eraseIdx i).map (rowOf encI 1 3)), .tabG encOf (rowOf encBl 1 4) gm (M.set i ⟨some ⟨gt, 0, none⟩, tx.set y false, tc⟩), .row encI 1 3 (.slice (some ⟨gh, 0, none⟩) c.hours.length c.hours.length) st.hands, .tabG encOf (rowOf encI 1 3) go O, .blk b1 [.slice A c.t.length ca, .slice B c.beds.length cb, .slice C c.hours.length cc, .int .i64 c.wear.lo, .int .i64 c.wear.hi, .int .i64 c.layer.lo, .int .i64 c.layer.hi, .int .i64 c.rate, .int .i64 c.limit, .int .i64 c.base], .blk b6 [.slice (some ⟨gn, 0, none⟩) c.beds.length c.beds.length, .slice (some ⟨gm, 0, none⟩) c.beds.length c.beds.length, .slice (some ⟨gh, 0, none⟩) c.hours.length c.hours.length]]) (fun _ h => h) ?_
              (repeat' (first | ((with_reducible refine isOps ?_); first | refine u_move rfl rfl rfl rfl rfl ?_ | refine u_storeL (hd := encOf) (i := i) (s := ⟨sA2, sx2, sc2⟩) ⟨(G 12).A, sx2 ++ [max 0 (x - 1)], (G 12).m⟩ rfl rfl rfl rfl rfl rfl (by (repeat (first | exact Take.here _ _ | apply Take.there))) (by omega) ?_ | refine u_add1 rfl rfl rfl rfl rfl rfl (by omega) ?_) | (with_reducible first | refine u_region ?_ | refine u_nil ?_ | refine u_then_n ?_ | refine u_in_n ?_)))
              exact u_again (ι := Nat × SlOf Int) (j + 1, ⟨(G 12).A, sx2 ++ [max 0 (x - 1)], (G 12).m⟩) (by exact ⟨by simp only; omega, e1⟩) (by simp only; omega) (by (first | exact fun _ _ h => lk_nil h | (repeat (first | exact (fun _ _ h => lk_nil h) | (refine lk_sub rfl ?_))))) (by (repeat (first | exact Out.nil _ | (refine Out.cons (by (repeat (first | exact Take.here _ _ | apply Take.there))) ?_))))
            · obtain rfl : j = sx.length := by omega
              rw [List.take_length] at hsx
              subst hsx
              (repeat' (first | ((with_reducible refine isOps ?_); first | refine u_move rfl rfl rfl rfl rfl ?_ | (refine x_load rfl rfl rfl rfl rfl ?_; refine ⟨_, rfl, ?_⟩) | refine u_field rfl rfl rfl rfl rfl ?_ | (refine u_cmp rfl rfl rfl rfl rfl rfl rfl (fun h => ?_) (fun h => ?_) <;> (dsimp only [cmpP] at h; (try (exfalso; omega)))) | refine u_sub rfl rfl rfl rfl rfl rfl (IntWalk.i64_in _ (by omega)) ?_ | refine u_index rfl rfl rfl rfl rfl rfl rfl (by omega) ?_) | (with_reducible first | refine u_seq ?_ | refine u_region ?_ | refine u_nil ?_ | refine u_then_n ?_ | refine u_exit ?_ | refine u_in_same ?_ | refine u_then_e ?_) | ((with_reducible refine u_cond_f ?_ ?_); (· exact rfl))))
              refine u_tabShut i (re := rowOf encI 1 3) ⟨sA2, lessL sx, sc2⟩ hs1 (by (repeat (first | exact Take.here _ _ | apply Take.there))) (by (repeat (first | exact Take.here _ _ | apply Take.there))) (by (repeat (first | exact Take.here _ _ | apply Take.there))) ?_
              have ok2 : PSok c.beds.length c.hours.length y i ⟨ndsO st i, mayO st y i, handsO st y, st.out⟩ := ⟨hn1.1, hm1.1, hh1'.1, oki.ol, hn1.2, hm1.2, hh1'.2, oki.or_⟩
              have eL : (L.set i ⟨sA2, lessL sx, sc2⟩).map (·.xs) = ndsO st i := by rw [List.map_set, hL]; unfold ndsO; rw [gs1]
              have eM : (M.set i ⟨some ⟨gt, 0, none⟩, tx.set y false, tc⟩).map (·.xs) = mayO st y i := by rw [List.map_set, hM]; unfold mayO; rw [gt1]
              have eH : st.hands.set y (kk - 1) = handsO st y := by unfold handsO; rw [hk]
              have hca := fun (W : World) a1 a2 a3 => ifeas_can ok2 eL eM (by omega) (by omega) (by omega) hbl (some ⟨gn, 0, none⟩) (some ⟨gm, 0, none⟩) (some ⟨gh, 0, none⟩) c.beds.length c.beds.length c.hours.length W a1 a2 a3
              unfold cellsRo at hca
              dsimp only at hca
              cases hcb : canB (ndsO st i) (mayO st y i) (handsO st y) with
              | true =>
                rw [hcb] at hca
                have hOl : O.length = c.hours.length := by have := congrArg List.length hO; rw [oki.ol] at this; simpa using this
                obtain ⟨o, ho1⟩ : ∃ o, O[y]? = some o := ⟨_, List.getElem?_eq_getElem (by omega)⟩
                have go1 : st.out.getD y [] = o.xs := by rw [← hO]; exact getD_map ho1
                have hol := oki.or_ y
                rw [if_neg (by omega), if_pos rfl, go1] at hol
                obtain ⟨oA, ox, oc⟩ := o
                simp only at go1 hol
                have : GetI O y ⟨oA, ox, oc⟩ := ⟨ho1⟩
                have hstep : stepP y i st = ⟨ndsO st i, mayO st y i, handsO st y, outO st y i⟩ := by unfold stepP; rw [if_pos htk1, if_pos hcb]
                (repeat' (first | ((with_reducible refine isOps ?_); first | refine u_move rfl rfl rfl rfl rfl ?_ | (refine x_load rfl rfl rfl rfl rfl ?_; refine ⟨_, rfl, ?_⟩) | (refine u_storeR (enc := encI) (i := y) (kk - 1) rfl rfl rfl rfl rfl rfl rfl rfl (by omega) ?_; rw [eH]) | refine u_gives rfl rfl rfl rfl rfl rfl (fun _ _ q => hca _ (tab_at q.own (by (repeat (first | exact Take.here _ _ | apply Take.there)))) (tab_at q.own (by (repeat (first | exact Take.here _ _ | apply Take.there)))) (row_at q.own (by (repeat (first | exact Take.here _ _ | apply Take.there))))) ?_ | refine u_index rfl rfl rfl rfl rfl rfl rfl (by omega) ?_ | (refine x_buildSlice rfl rfl rfl rfl rfl ?_; refine ⟨rfl, _, rfl, fun b => ?_⟩)) | (with_reducible first | refine u_seq ?_ | refine u_region ?_ | refine u_nil ?_ | refine u_then_n ?_) | ((with_reducible refine u_cond_t ?_ ?_); (· exact rfl))))
                refine u_tabOpen y ho1 (by (repeat (first | exact Take.here _ _ | apply Take.there))) ?_
                simp only [rowOf]
                (repeat' (first | ((with_reducible refine isOps ?_); first | refine u_move rfl rfl rfl rfl rfl ?_ | (refine u_append (enc := encI) [_] rfl rfl rfl rfl rfl (by (repeat (first | exact Take.here _ _ | apply Take.there))) rfl rfl (src_one (by exact rfl)) (by refine ⟨?_, by decide⟩; (try simp only [List.length_append, List.length_cons, List.length_nil]); omega) (fun A' c' => ?_)) | refine u_storeL (hd := encOf) (i := y) (s := ⟨oA, ox, oc⟩) ⟨A', ox ++ [(i : Int)], c'⟩ rfl rfl rfl rfl rfl (by simp [encOf, Value.cells]) (by (repeat (first | exact Take.here _ _ | apply Take.there))) (by omega) ?_ | refine u_add1 rfl rfl rfl rfl rfl rfl (by omega) ?_ | refine u_index rfl rfl rfl rfl rfl rfl rfl (by omega) ?_) | (with_reducible first | refine u_region ?_ | refine u_nil ?_ | refine u_then_n ?_ | refine u_exit ?_ | refine u_in_same ?_ | refine u_then_e ?_)))
                refine u_tabShut y (re := rowOf encI 1 3) ⟨A', ox ++ [(i : Int)], c'⟩ ho1 (by (repeat (first | exact Take.here _ _ | apply Take.there))) (by (repeat (first | exact Take.here _ _ | apply Take.there))) (by (repeat (first | exact Take.here _ _ | apply Take.there))) ?_
                refine u_again (ι := PM) ⟨i + 1, L.set i ⟨sA2, lessL sx, sc2⟩, M.set i ⟨some ⟨gt, 0, none⟩, tx.set y false, tc⟩, O.set y ⟨A', ox ++ [(i : Int)], c'⟩⟩ (by
                  refine ⟨by simp only; omega, ?_⟩
                  simp only
                  rw [hnext, hstep]
                  exact ⟨eL, eM, by simp only; rw [List.map_set, hO]; unfold outO; rw [go1]⟩) (by simp only; omega) (by (first | exact fun _ _ h => lk_nil h | (repeat (first | exact (fun _ _ h => lk_nil h) | (refine lk_sub rfl ?_))))) (by simp only [hnext, hstep]; (repeat (first | exact Out.nil _ | (refine Out.cons (by (repeat (first | exact Take.here _ _ | apply Take.there))) ?_))))
              | false =>
                rw [hcb] at hca
                have lL : (L.set i ⟨sA2, lessL sx, sc2⟩).length = c.beds.length := by rw [List.length_set]; exact hLl
                have hs2 : (L.set i ⟨sA2, lessL sx, sc2⟩)[i]? = some ⟨sA2, lessL sx, sc2⟩ := List.getElem?_set_self (by omega)
                have eB : (L.set i ⟨sA2, lessL sx, sc2⟩).set i ⟨some ⟨gs, 0, none⟩, sx, sc⟩ = L := by
                  rw [List.set_set]
                  obtain ⟨h9, h8⟩ := List.getElem?_eq_some_iff.1 hs1
                  rw [← h8]; exact List.set_getElem_self h9
                have eH2 : (handsO st y).set y (kk - 1 + 1) = st.hands := by
                  rw [← eH, List.set_set, Int.sub_add_cancel, ← hk, Flow.getD_lt (by omega)]; exact List.set_getElem_self _
                have : GetI (handsO st y) y (kk - 1) := ⟨by rw [← eH]; exact List.getElem?_set_self (by omega)⟩
                have hstep : stepP y i st = ⟨st.nds, mayO st y i, st.hands, st.out⟩ := by unfold stepP; rw [if_pos htk1, if_neg (by rw [hcb]; simp)]
                (repeat' (first | ((with_reducible refine isOps ?_); first | refine u_move rfl rfl rfl rfl rfl ?_ | (refine x_load rfl rfl rfl rfl rfl ?_; refine ⟨_, rfl, ?_⟩) | refine u_field rfl rfl rfl rfl rfl ?_ | (refine u_storeR (enc := encI) (i := y) (kk - 1) rfl rfl rfl rfl rfl rfl rfl rfl (by omega) ?_; rw [eH]) | refine u_gives rfl rfl rfl rfl rfl rfl (fun _ _ q => hca _ (tab_at q.own (by (repeat (first | exact Take.here _ _ | apply Take.there)))) (tab_at q.own (by (repeat (first | exact Take.here _ _ | apply Take.there)))) (row_at q.own (by (repeat (first | exact Take.here _ _ | apply Take.there))))) ?_ | refine u_index rfl rfl rfl rfl rfl rfl rfl (by omega) ?_) | (with_reducible first | refine u_seq ?_ | refine u_region ?_ | refine u_nil ?_ | refine u_then_n ?_ | refine u_skip ?_) | ((with_reducible refine u_cond_f ?_ ?_); (· exact rfl))))
                refine u_tabOpen i hs2 (by (repeat (first | exact Take.here _ _ | apply Take.there))) ?_
                (repeat' (first | ((with_reducible refine isOps ?_); first | refine u_move rfl rfl rfl rfl rfl ?_ | (refine x_load rfl rfl rfl rfl rfl ?_; refine ⟨_, rfl, ?_⟩) | refine u_field rfl rfl rfl rfl rfl ?_ | refine u_storeL (hd := encOf) (i := i) (s := ⟨sA2, lessL sx, sc2⟩) ⟨some ⟨gs, 0, none⟩, sx, sc⟩ rfl rfl rfl rfl rfl (by simp [encOf, Value.cells]) (by (repeat (first | exact Take.here _ _ | apply Take.there))) (by omega) ?_ | (refine u_storeR (enc := encI) (i := y) (kk - 1 + 1) rfl rfl rfl rfl rfl rfl rfl rfl (by omega) ?_; rw [eH2]) | refine u_add1 rfl rfl rfl rfl rfl rfl (by omega) ?_ | refine u_add rfl rfl rfl rfl rfl rfl (IntWalk.i64_in _ (by omega)) ?_ | refine u_index rfl rfl rfl rfl rfl rfl rfl (by omega) ?_) | (with_reducible first | refine u_region ?_ | refine u_nil ?_ | refine u_then_n ?_ | refine u_in_n ?_)))
                refine u_tabShut i (re := rowOf encI 1 3) ⟨some ⟨gs, 0, none⟩, sx, sc⟩ hs2 (by (repeat (first | exact Take.here _ _ | apply Take.there))) (by (repeat (first | exact Take.here _ _ | apply Take.there))) (by (repeat (first | exact Take.here _ _ | apply Take.there))) ?_
                rw [eB]
                refine u_again (ι := PM) ⟨i + 1, L, M.set i ⟨some ⟨gt, 0, none⟩, tx.set y false, tc⟩, O⟩ (by
                  refine ⟨by simp only; omega, ?_⟩
                  simp only
                  rw [hnext, hstep]
                  exact ⟨hL, eM, hO⟩) (by simp only; omega) (by (first | exact fun _ _ h => lk_nil h | (repeat (first | exact (fun _ _ h => lk_nil h) | (refine lk_sub rfl ?_))))) (by simp only [hnext, hstep]; (repeat (first | exact Out.nil _ | (refine Out.cons (by (repeat (first | exact Take.here _ _ | apply Take.there))) ?_))))
          · (repeat' (first | ((with_reducible refine isOps ?_); first | refine u_move rfl rfl rfl rfl rfl ?_ | refine u_assign rfl rfl rfl rfl rfl ?_ | (refine x_load rfl rfl rfl rfl rfl ?_; refine ⟨_, rfl, ?_⟩) | refine u_field rfl rfl rfl rfl rfl ?_ | refine u_pick rfl rfl rfl rfl rfl rfl ?_ | (refine u_cmp rfl rfl rfl rfl rfl rfl rfl (fun h => ?_) (fun h => ?_) <;> (dsimp only [cmpP] at h; (try (exfalso; omega)))) | refine u_gives rfl rfl rfl rfl rfl rfl (fun _ _ q => hmaxc _ (row_at q.own (by (repeat (first | exact Take.here _ _ | apply Take.there))))) ?_ | refine u_storeR (enc := encBl) (i := y) false rfl rfl rfl rfl rfl rfl rfl rfl (by omega) ?_ | refine u_index (I := y) rfl rfl rfl rfl rfl rfl rfl (by dsimp only; omega) ?_ | refine u_not rfl rfl rfl rfl rfl ?_ | refine u_add1 rfl rfl rfl rfl rfl rfl (by omega) ?_ | refine u_index rfl rfl rfl rfl rfl rfl rfl (by omega) ?_) | (with_reducible first | refine u_seq ?_ | refine u_region ?_ | refine u_nil ?_ | refine u_then_n ?_ | refine u_exit ?_ | refine u_in_same ?_ | refine u_then_e ?_) | ((with_reducible refine u_cond_t ?_ ?_); (· exact rfl))))
            have hstep : stepP y i st = ⟨st.nds, mayO st y i, st.hands, st.out⟩ := by unfold stepP; rw [htk, if_neg (by simp; omega)]
            refine u_tabShutR i (tx.set y false) (by simp) ht1 (by (repeat (first | exact Take.here _ _ | apply Take.there))) (by (repeat (first | exact Take.here _ _ | apply Take.there))) (by (repeat (first | exact Take.here _ _ | apply Take.there))) ?_
            refine u_tabShut0 i (re := rowOf encI 1 3) hs1 (by (repeat (first | exact Take.here _ _ | apply Take.there))) (by (repeat (first | exact Take.here _ _ | apply Take.there))) (by (repeat (first | exact Take.here _ _ | apply Take.there))) ?_
            refine u_again (ι := PM) ⟨i + 1, L, M.set i ⟨some ⟨gt, 0, none⟩, tx.set y false, tc⟩, O⟩ (by
              refine ⟨by simp only; omega, ?_⟩
              simp only
              rw [hnext, hstep]
              exact ⟨hL, by simp only; rw [List.map_set, hM]; unfold mayO; rw [gt1], hO⟩) (by simp only; omega) (by (first | exact fun _ _ h => lk_nil h | (repeat (first | exact (fun _ _ h => lk_nil h) | (refine lk_sub rfl ?_))))) (by simp only [hnext, hstep]; (repeat (first | exact Out.nil _ | (refine Out.cons (by (repeat (first | exact Take.here _ _ | apply Take.there))) ?_))))
        · (repeat' (first | ((with_reducible refine isOps ?_); first | refine u_move rfl rfl rfl rfl rfl ?_ | refine u_assign rfl rfl rfl rfl rfl ?_ | (refine x_load rfl rfl rfl rfl rfl ?_; refine ⟨_, rfl, ?_⟩) | refine u_field rfl rfl rfl rfl rfl ?_ | refine u_pick rfl rfl rfl rfl rfl rfl ?_ | refine u_not_wanted rfl rfl rfl ?_ | (refine u_cmp rfl rfl rfl rfl rfl rfl rfl (fun h => ?_) (fun h => ?_) <;> (dsimp only [cmpP] at h; (try (exfalso; omega)))) | refine u_storeR (enc := encBl) (i := y) false rfl rfl rfl rfl rfl rfl rfl rfl (by omega) ?_ | refine u_index (I := y) rfl rfl rfl rfl rfl rfl rfl (by dsimp only; omega) ?_ | refine u_not rfl rfl rfl rfl rfl ?_ | refine u_add1 rfl rfl rfl rfl rfl rfl (by omega) ?_ | refine u_index rfl rfl rfl rfl rfl rfl rfl (by omega) ?_) | (with_reducible first | refine u_seq ?_ | refine u_region ?_ | refine u_nil ?_ | refine u_then_n ?_ | refine u_exit ?_ | refine u_in_same ?_ | refine u_then_e ?_) | ((with_reducible refine u_cond_t ?_ ?_); (· exact rfl))))
          have hstep : stepP y i st = ⟨st.nds, mayO st y i, st.hands, st.out⟩ := by unfold stepP; rw [htk, if_neg (by simp; omega)]
          refine u_tabShutR i (tx.set y false) (by simp) ht1 (by (repeat (first | exact Take.here _ _ | apply Take.there))) (by (repeat (first | exact Take.here _ _ | apply Take.there))) (by (repeat (first | exact Take.here _ _ | apply Take.there))) ?_
          refine u_tabShut0 i (re := rowOf encI 1 3) hs1 (by (repeat (first | exact Take.here _ _ | apply Take.there))) (by (repeat (first | exact Take.here _ _ | apply Take.there))) (by (repeat (first | exact Take.here _ _ | apply Take.there))) ?_
          refine u_again (ι := PM) ⟨i + 1, L, M.set i ⟨some ⟨gt, 0, none⟩, tx.set y false, tc⟩, O⟩ (by
            refine ⟨by simp only; omega, ?_⟩
            simp only
            rw [hnext, hstep]
            exact ⟨hL, by simp only; rw [List.map_set, hM]; unfold mayO; rw [gt1], hO⟩) (by simp only; omega) (by (first | exact fun _ _ h => lk_nil h | (repeat (first | exact (fun _ _ h => lk_nil h) | (refine lk_sub rfl ?_))))) (by simp only [hnext, hstep]; (repeat (first | exact Out.nil _ | (refine Out.cons (by (repeat (first | exact Take.here _ _ | apply Take.there))) ?_))))
    · obtain rfl : i = c.beds.length := by omega
      (repeat' (first | ((with_reducible refine isOps ?_); first | refine u_move rfl rfl rfl rfl rfl ?_ | (refine u_cmp rfl rfl rfl rfl rfl rfl rfl (fun h => ?_) (fun h => ?_) <;> (dsimp only [cmpP] at h; (try (exfalso; omega)))) | refine u_add1 rfl rfl rfl rfl rfl rfl (by omega) ?_) | (with_reducible first | refine u_seq ?_ | refine u_region ?_ | refine u_nil ?_ | refine u_then_n ?_ | refine u_exit ?_ | refine u_in_n ?_ | refine u_in_same ?_ | refine u_then_e ?_) | ((with_reducible refine u_cond_f ?_ ?_); (· exact rfl))))
      exact u_again (ι := PM) ⟨y + 1, L, M, O⟩ (by exact ⟨by simp only; omega, hL, hM, hO⟩) (by simp only; omega) (by (first | exact fun _ _ h => lk_nil h | (repeat (first | exact (fun _ _ h => lk_nil h) | (refine lk_sub rfl ?_))))) (by (repeat (first | exact Out.nil _ | (refine Out.cons (by (repeat (first | exact Take.here _ _ | apply Take.there))) ?_))))
  · obtain rfl : y = c.hours.length := by omega
    (repeat' (first | ((with_reducible refine isOps ?_); first | refine u_move rfl rfl rfl rfl rfl ?_ | refine u_assign rfl rfl rfl rfl rfl ?_ | (refine u_cmp rfl rfl rfl rfl rfl rfl rfl (fun h => ?_) (fun h => ?_) <;> (dsimp only [cmpP] at h; (try (exfalso; omega))))) | (with_reducible first | refine u_seq ?_ | refine u_region ?_ | refine u_nil ?_ | refine u_then_n ?_ | refine u_ret ?_ | refine u_exit ?_ | refine u_in_same ?_ | refine u_then_e ?_) | ((with_reducible refine u_cond_f ?_ ?_); (· exact rfl))))
    exact u_done (by (exact ResL.cons (by exact Res1.tmp rfl) (ResL.cons (by exact Res1.tmp rfl) ResL.nil))) (go, O) hO (by simp [resV]) (fun _ h => h.sub (by (repeat (first | exact Out.nil _ | (refine Out.cons (by (repeat (first | exact Take.here _ _ | apply Take.there))) ?_)))))
end Go.Proofs.YtdigopgncfhiaaaDoor.Two
/- Ice: where there is no plan, by the program. -/
namespace Go.Proofs.YtdigopgncfhiaaaDoor
open Go.RowKit
set_option linter.unusedSimpArgs false
set_option linter.unusedVariables false
set_option maxRecDepth 20000
theorem beds_pos {c : Cov} (h0 : errI c = 0) : 0 < c.beds.length := by
  have hv : valid c.t = true := by
    cases hv : valid c.t with
    | true => rfl
    | false => unfold errI at h0; rw [hv] at h0; simp at h0
  have := (valid_len hv).1
  have := (fine_of h0).beds
  omega
theorem crew_ok {c : Cov} (hf : Fine c) : ∀ u ∈ c.hours, 0 ≤ u.crew ∧ u.crew ≤ 1000 := fun u hu => by
  have h9 := hf.hour u hu
  unfold hourOk at h9
  simp only [Bool.and_eq_true, inB_iff] at h9
  omega
set_option maxHeartbeats 2000000 in
theorem iplan_cant (c : Cov) (A : Option Addr) (ca : Nat) (B : Option Addr) (cb : Nat) (C : Option Addr) (cc : Nat) (w : World) (h : CovAt w c A B C) (hs : Small c) (hG : InC w 0 0 limC) (h0 : errI c = 0) (hcan : canB (needsL c) (mayL c) (handsL c) = false) :
    Gv Tryd.prog 10 [vCov c A ca B cb C cc] w (.tuple #[.slice none 0 0, .int .i64 8]) := by
  have h4 := hs.b; have h5 := hs.h
  have hf := fine_of h0
  have hh1 := hf.hours
  rw [inB_iff] at hh1
  have h1 := fun W (hb : Below w.heap.size w W) => iopen_ok c A ca B cb C cc W (h.below hb) hs h0
  have h2 := fun W (hb : Below w.heap.size w W) g (hr : InC W g 0 (cellsCov c A ca B cb C cc)) => Two.iroster_any c A ca B cb C cc g W hr (hG.below hb) (h.below hb) hs hf
  have ok0 := startP_ok hf hs (crew_ok hf)
  have hbl := beds_pos h0
  unfold Gv
  unfold vCov at h1 ⊢
  unfold cellsCov at h1 h2 ⊢
  (refine ret_enter (n := 140) Tryd.func10 rfl rfl rfl ?_)
  (repeat' (first | ((with_reducible refine isOps ?_); first | refine u_move rfl rfl rfl rfl rfl ?_ | refine u_assign rfl rfl rfl rfl rfl ?_ | (refine x_load rfl rfl rfl rfl rfl ?_; refine ⟨_, rfl, ?_⟩) | (refine u_cmp rfl rfl rfl rfl rfl rfl rfl (fun h => ?_) (fun h => ?_) <;> (dsimp only [cmpP] at h; (try (exfalso; omega)))) | (refine u_call rfl rfl rfl rfl rfl rfl (fun _ _ q => h1 _ q.below) ?_; rintro g -; dsimp only [List.cons_append, List.nil_append]) | (refine u_call rfl rfl rfl rfl rfl rfl (fun _ _ q => h2 _ q.below g (cells_by q.own (Below.refl _ _) rfl)) ?_; rintro ⟨⟨gn, L⟩, ⟨gm, M⟩, gh⟩ ⟨hL, hM⟩; dsimp only [List.cons_append, List.nil_append]) | refine u_extract rfl rfl rfl rfl rfl rfl ?_ | (refine x_store rfl rfl rfl rfl rfl ?_; refine And.intro rfl (And.intro (by first | decide | exact Nat.le_of_ble_eq_true rfl | (simp; omega)) ⟨_, rfl, ?_⟩)) | (refine u_alloc rfl rfl rfl rfl (fun b => ?_)) | (refine u_box rfl rfl rfl rfl rfl rfl (fun b => ?_))) | (with_reducible first | refine u_seq ?_ | refine u_region ?_ | refine u_nil ?_ | refine u_then_n ?_ | refine u_skip ?_) | ((with_reducible refine u_cond_f ?_ ?_); (· exact rfl))))
  simp only at hL hM
  have hca := fun (W : World) (a1 : TabAt encI 1 W (some ⟨gn, 0, none⟩) L) (a2 : TabAt encBl 1 W (some ⟨gm, 0, none⟩) M) (a3 : SlAt encI 1 W (some ⟨gh, 0, none⟩) (handsL c)) => ifeas_can ok0 hL hM (by omega) (by omega) (by omega) hbl _ _ _ c.beds.length c.beds.length c.hours.length W a1 a2 a3
  rw [show canB (startP c).nds (startP c).may (startP c).hands = false from hcan] at hca
  unfold cellsRo at hca
  (repeat' (first | ((with_reducible refine isOps ?_); first | refine u_assign rfl rfl rfl rfl rfl ?_ | refine u_gives rfl rfl rfl rfl rfl rfl (fun _ _ q => hca _ (tab_at q.own (by (repeat (first | exact Take.here _ _ | apply Take.there)))) (tab_at q.own (by (repeat (first | exact Take.here _ _ | apply Take.there)))) (row_at q.own (by (repeat (first | exact Take.here _ _ | apply Take.there))))) ?_ | refine u_not rfl rfl rfl rfl rfl ?_) | (with_reducible first | refine u_seq ?_ | refine u_region ?_ | refine u_nil ?_ | refine u_then_n ?_ | refine u_ret ?_ | refine u_then_r ?_) | ((with_reducible refine u_cond_t ?_ ?_); (· exact rfl))))
  exact u_done (by (exact ResL.cons (by exact Res1.tmp rfl) (ResL.cons (by exact Res1.tmp rfl) ResL.nil))) () trivial rfl (fun _ h => h.sub (by (repeat (first | exact Out.nil _ | (refine Out.cons (by (repeat (first | exact Take.here _ _ | apply Take.there))) ?_)))))
end Go.Proofs.YtdigopgncfhiaaaDoor
/- What lies between two marks: drop of the reference. -/
namespace Go.Proofs.YtdigopgncfhiaaaDoor
set_option linter.unusedVariables false
open Go.RowKit
set_option linter.unusedSimpArgs false
theorem extract_snoc {α : Type} (l : List α) (i j : Nat) (hi : i ≤ j) (hj : j < l.length) : l.extract i (j + 1) = l.extract i j ++ [l[j]] := by
  simp only [List.extract_eq_take_drop]
  rw [show j + 1 - i = (j - i) + 1 by omega, List.take_succ_eq_append_getElem (by simp; omega)]
  simp [show i + (j - i) = j by omega]
theorem sumSp_snoc (l : List Sp) (x : Sp) : sumSp (l ++ [x]) = addSp (sumSp l) x := by simp [sumSp]
theorem longBetween_succ {t : List St} {i j : Nat} (hi : i ≤ j) (hj : j < t.length) : longBetween t i (j + 1) = addSp (longBetween t i j) t[j].long := by
  unfold longBetween
  rw [extract_snoc _ _ _ hi (by simpa [longs] using hj), sumSp_snoc]; simp [longs]
theorem fallBetween_succ {t : List St} {i j : Nat} (hi : i ≤ j) (hj : j < t.length) : fallBetween t i (j + 1) = addSp (fallBetween t i j) t[j].fall := by
  unfold fallBetween
  rw [extract_snoc _ _ _ hi (by simpa [falls] using hj), sumSp_snoc]; simp [falls]
theorem longBetween_self (t : List St) (i : Nat) : longBetween t i i = ⟨0, 0⟩ := by simp [longBetween, sumSp, List.extract_eq_take_drop]
theorem fallBetween_self (t : List St) (i : Nat) : fallBetween t i i = ⟨0, 0⟩ := by simp [fallBetween, sumSp, List.extract_eq_take_drop]
/-- sums stay small -/
theorem between_bd {t : List St} (h : ∀ s ∈ t, Okay s) : ∀ {i j : Nat}, i ≤ j → j ≤ t.length →
    0 ≤ (longBetween t i j).lo ∧ (longBetween t i j).lo ≤ (longBetween t i j).hi ∧ (longBetween t i j).hi ≤ 30000 * (j - i : Int) ∧
    0 ≤ (fallBetween t i j).lo ∧ (fallBetween t i j).lo ≤ (fallBetween t i j).hi ∧ (fallBetween t i j).hi ≤ 5000 * (j - i : Int) := by
  intro i j hij
  induction j with
  | zero => intro _; obtain rfl : i = 0 := by omega
            simp [longBetween_self, fallBetween_self]
  | succ j ih =>
    intro hj
    by_cases hji : i = j + 1
    · subst hji; simp [longBetween_self, fallBetween_self]
    · have := ih (by omega) (by omega)
      have ho := h t[j] (List.getElem_mem (by omega))
      rw [longBetween_succ (by omega) (by omega), fallBetween_succ (by omega) (by omega)]
      have := ho.l0; have := ho.l1; have := ho.l2; have := ho.f0; have := ho.f1; have := ho.f2
      simp only [addSp]
      omega
set_option maxHeartbeats 4000000 in
theorem rdrop_any (t : List St) (A : Option Addr) (cap : Nat) (i j : Nat) (w : World) (ht : SlAt encSt 9 w A t) (ho : ∀ s ∈ t, Okay s) (hij : i ≤ j) (hj : j ≤ t.length) (hl : t.length ≤ 1000) :
    Gives 125 #[vT A t.length cap, .int .i64 i, .int .i64 j] w (.tuple #[vSp (longBetween t i j), vSp (fallBetween t i j)]) := by
  unfold Gives vT vSp
  have HT := Lib.hid ht
  clear ht
  go_enter Tryd.func125, Tryd.ntmps125
  go_wp2
  go_loopw [10] (fun v wr => ∃ (k : Nat), i ≤ k ∧ k ≤ j ∧ v = .int .i64 k ∧ Blk wr w.heap.size #[.slice A t.length cap] ∧ Blk wr (w.heap.size + 1) #[.int .i64 0, .int .i64 0] ∧ Blk wr (w.heap.size + 2) #[.int .i64 0, .int .i64 0]
     ∧ Blk wr (w.heap.size + 3) #[.int .i64 (longBetween t i k).lo, .int .i64 (longBetween t i k).hi] ∧ Blk wr (w.heap.size + 4) #[.int .i64 (fallBetween t i k).lo, .int .i64 (fallBetween t i k).hi] ∧ Below w.heap.size w wr) (fun v _ => j - (intOf v).toNat)
  case atStart =>
    refine ⟨i, Nat.le_refl _, hij, rfl, ((((Blk.new _ _ _).alloc _).alloc _).alloc _).alloc _, (((Blk.new' (by simp)).alloc _).alloc _).alloc _, ((Blk.new' (by simp)).alloc _).alloc _, Blk.cast ((Blk.new' (by simp)).alloc _) (by simp [longBetween_self]), Blk.cast (Blk.new' (by simp)) (by simp [fallBetween_self]), bx_alloc (bx_alloc (bx_alloc (bx_alloc (below_alloc _ _) _) _) _) _⟩
  case round =>
    obtain ⟨k, hk1, hk2, rfl, k0, k1, k2, k3, k4, hB⟩ := hrel
    obtain ⟨c0, f0, l0⟩ := k0.facts
    obtain ⟨c1, f1, l1⟩ := k1.facts
    obtain ⟨c2, f2, l2⟩ := k2.facts
    obtain ⟨c3, f3, l3⟩ := k3.facts
    obtain ⟨c4, f4, l4⟩ := k4.facts
    by_cases hlt : k < j
    · obtain ⟨b, o, rfl, hblt, hc⟩ := (HT.out.below hB).at_ (show k < t.length by omega)
      have bd := between_bd ho hk1 (show k ≤ t.length by omega)
      have hl1 := Lib.hid (longBetween_succ hk1 (show k < t.length by omega))
      have hf1 := Lib.hid (fallBetween_succ hk1 (show k < t.length by omega))
      have hok := ho t[k] (List.getElem_mem (show k < t.length by omega))
      generalize t[k] = s at hc hl1 hf1 hok
      generalize longBetween t i k = p at *
      generalize fallBetween t i k = q at *
      obtain ⟨q1, q2, q3, q4, q5, q6⟩ := bd
      have := hok.l0; have := hok.l1; have := hok.l2; have := hok.f0; have := hok.f1; have := hok.f2
      have e0 := hc 0 _ rfl
      have e1 := hc 1 _ rfl
      have e2 := hc 2 _ rfl
      have e3 := hc 3 _ rfl
      have e4 := hc 4 _ rfl
      have e5 := hc 5 _ rfl
      have e6 := hc 6 _ rfl
      have e7 := hc 7 _ rfl
      have e8 := hc 8 _ rfl
      simp only [Nat.add_zero] at e0
      clear hc
      have hi0 : (0:Int) ≤ k := by omega
      have hi1 : (k:Int) < t.length := by omega
      have hkj : (k:Int) < j := by omega
      go_wp2
      go_roundw
      case rel =>
        go_light
        refine ⟨k + 1, by omega, by omega, by go_num, ?_, ?_, ?_, ?_, ?_, ?_⟩
        · (refine blkE ?_; repeat (first | (with_reducible refine BlkE.new_ (by first | (simp; done) | (simp; omega) | omega) ?_; (first | rfl | (simp; done))) | (with_reducible refine BlkE.alloc ?_ _) | (with_reducible refine BlkE.far ?_ _ (by first | (simp; done) | (simp; omega) | omega)) | (with_reducible refine BlkE.set_ ?_ (by first | (simp; done) | (simp; omega) | omega)) | (with_reducible refine BlkE.drew ?_) | (with_reducible refine BlkE.drewN ?_ _) | (refine BlkE.leaf (by assumption) ?_; (first | rfl | (simp; done)))))
        · (refine blkE ?_; repeat (first | (with_reducible refine BlkE.new_ (by first | (simp; done) | (simp; omega) | omega) ?_; (first | rfl | (simp; done))) | (with_reducible refine BlkE.alloc ?_ _) | (with_reducible refine BlkE.far ?_ _ (by first | (simp; done) | (simp; omega) | omega)) | (with_reducible refine BlkE.set_ ?_ (by first | (simp; done) | (simp; omega) | omega)) | (with_reducible refine BlkE.drew ?_) | (with_reducible refine BlkE.drewN ?_ _) | (refine BlkE.leaf (by assumption) ?_; (first | rfl | (simp; done)))))
        · (refine blkE ?_; repeat (first | (with_reducible refine BlkE.new_ (by first | (simp; done) | (simp; omega) | omega) ?_; (first | rfl | (simp; done))) | (with_reducible refine BlkE.alloc ?_ _) | (with_reducible refine BlkE.far ?_ _ (by first | (simp; done) | (simp; omega) | omega)) | (with_reducible refine BlkE.set_ ?_ (by first | (simp; done) | (simp; omega) | omega)) | (with_reducible refine BlkE.drew ?_) | (with_reducible refine BlkE.drewN ?_ _) | (refine BlkE.leaf (by assumption) ?_; (first | rfl | (simp; done)))))
        · rw [hl1.out]; (refine blkE ?_; repeat (first | (with_reducible refine BlkE.new_ (by first | (simp; done) | (simp; omega) | omega) ?_; (first | rfl | (simp [addSp]; done))) | (with_reducible refine BlkE.alloc ?_ _) | (with_reducible refine BlkE.far ?_ _ (by first | (simp; done) | (simp; omega) | omega)) | (with_reducible refine BlkE.set_ ?_ (by first | (simp; done) | (simp; omega) | omega)) | (with_reducible refine BlkE.drew ?_) | (with_reducible refine BlkE.drewN ?_ _) | (refine BlkE.leaf (by assumption) ?_; (first | rfl | (simp [addSp]; done)))))
        · rw [hf1.out]; (refine blkE ?_; repeat (first | (with_reducible refine BlkE.new_ (by first | (simp; done) | (simp; omega) | omega) ?_; (first | rfl | (simp [addSp]; done))) | (with_reducible refine BlkE.alloc ?_ _) | (with_reducible refine BlkE.far ?_ _ (by first | (simp; done) | (simp; omega) | omega)) | (with_reducible refine BlkE.set_ ?_ (by first | (simp; done) | (simp; omega) | omega)) | (with_reducible refine BlkE.drew ?_) | (with_reducible refine BlkE.drewN ?_ _) | (refine BlkE.leaf (by assumption) ?_; (first | rfl | (simp [addSp]; done)))))
        · (repeat (first | (with_reducible refine bx_alloc ?_ _) | (with_reducible refine below_setCell ?_ (by first | (simp; done) | (simp; omega) | omega)) | (with_reducible refine below_drew ?_) | (with_reducible refine below_drewN ?_ _) | (with_reducible assumption) | (with_reducible exact Below.refl _ _)))
      case measure => simp [intOf]; omega
    · obtain rfl : k = j := by omega
      go_wp2
      go_region
      all_goals go_wp2
      refine bodyPost_ret (results_sp2 (x := .int .i64 (longBetween t i k).lo) (y := .int .i64 (longBetween t i k).hi) (x' := .int .i64 (fallBetween t i k).lo) (y' := .int .i64 (fallBetween t i k).hi) rfl rfl ?_ rfl ?_) rfl ⟨rfl, ?_⟩
      · (refine blkE ?_; repeat (first | (with_reducible refine BlkE.new_ (by first | (simp; done) | (simp; omega) | omega) ?_; (first | rfl | (simp; done))) | (with_reducible refine BlkE.alloc ?_ _) | (with_reducible refine BlkE.far ?_ _ (by first | (simp; done) | (simp; omega) | omega)) | (with_reducible refine BlkE.set_ ?_ (by first | (simp; done) | (simp; omega) | omega)) | (with_reducible refine BlkE.drew ?_) | (with_reducible refine BlkE.drewN ?_ _) | (refine BlkE.leaf (by assumption) ?_; (first | rfl | (simp; done)))))
      · (refine blkE ?_; repeat (first | (with_reducible refine BlkE.new_ (by first | (simp; done) | (simp; omega) | omega) ?_; (first | rfl | (simp; done))) | (with_reducible refine BlkE.alloc ?_ _) | (with_reducible refine BlkE.far ?_ _ (by first | (simp; done) | (simp; omega) | omega)) | (with_reducible refine BlkE.set_ ?_ (by first | (simp; done) | (simp; omega) | omega)) | (with_reducible refine BlkE.drew ?_) | (with_reducible refine BlkE.drewN ?_ _) | (refine BlkE.leaf (by assumption) ?_; (first | rfl | (simp; done)))))
      · (repeat (first | (with_reducible refine bx_alloc ?_ _) | (with_reducible refine below_setCell ?_ (by first | (simp; done) | (simp; omega) | omega)) | (with_reducible refine below_drew ?_) | (with_reducible refine below_drewN ?_ _) | (with_reducible assumption) | (with_reducible exact Below.refl _ _)))
end Go.Proofs.YtdigopgncfhiaaaDoor
