/- Ice: a plan by the reference: the walk (under way). -/
import Derived.Test.YtdigopgncfhiaaaDoorA17
import Derived.Test.YtdigopgncfhiaaaDoorA16
namespace Go.Proofs.YtdigopgncfhiaaaDoor
open Go.RowKit
set_option linter.unusedSimpArgs false
set_option linter.unusedVariables false
set_option maxRecDepth 20000
/-- the tables of a plan in memory -/
structure PM where
  k : Nat
  nd : List (SlOf Int)
  my : List (SlOf Bool)
  ot : List (SlOf Int)
def PMat (q : PM) (s : PS) : Prop := q.nd.map (·.xs) = s.nds ∧ q.my.map (·.xs) = s.may ∧ q.ot.map (·.xs) = s.out
theorem row_at {α : Type} {enc : α → List Value} {k e base m c : Nat} [ei : EncI enc k] {A : Option Addr} {xs : List α} {w : World} {H H' : List Ent} (h : Own base w H) (ht : Take H (.row enc k e (.slice A m c) xs) H') : SlAt enc k w A xs :=
  (slAt_row ei.len (h.here _ ht.mem)).2
theorem rowsOk_of {nb nh h i : Nat} {s : PS} (ok : PSok nb nh h i s) {L : List (SlOf Int)} {M : List (SlOf Bool)} (hL : L.map (·.xs) = s.nds) (hM : M.map (·.xs) = s.may) (hnb : nb ≤ 20) (hnh : nh ≤ 12) : RowsOk L M s.hands := by
  have l1 : L.length = nb := by have := congrArg List.length hL; rw [ok.nl] at this; simpa using this
  have l2 : M.length = nb := by have := congrArg List.length hM; rw [ok.ml] at this; simpa using this
  have r1 : ∀ x ∈ L, NRow nh x.xs := fun x hx => ok.nr _ (by rw [← hL]; exact List.mem_map_of_mem hx)
  have r2 : ∀ x ∈ M, x.xs.length = nh := fun x hx => ok.mr _ (by rw [← hM]; exact List.mem_map_of_mem hx)
  refine ⟨by omega, by omega, fun i s t hs ht => ?_, fun s hs => ?_, fun s hs x hx => ?_, by rw [ok.hl]; exact hnh, ok.hr⟩
  · rw [(r1 s (List.mem_of_getElem? hs)).len, r2 t (List.mem_of_getElem? ht)]; exact Nat.le_refl _
  · rw [(r1 s hs).len]; exact hnh
  · have := (r1 s hs).big x hx; omega
theorem steps_ok {nb nh h : Nat} {s : PS} (ok : PSok nb nh h 0 s) (hh : h < nh) : ∀ i, i ≤ nb → PSok nb nh h i (stepsP h i s)
  | 0, _ => ok
  | i + 1, hi => (steps_ok ok hh i (by omega)).step (by omega) hh
theorem hours_ok {nb nh : Nat} {s : PS} (ok : PSok nb nh 0 0 s) : ∀ h, h ≤ nh → PSok nb nh h 0 (hoursP nb h s)
  | 0, _ => ok
  | h + 1, hh => (steps_ok (hours_ok ok h (by omega)) (by omega) nb (Nat.le_refl _)).next
set_option maxHeartbeats 8000000 in
theorem rplan_any (c : Cov) (A : Option Addr) (ca : Nat) (B : Option Addr) (cb : Nat) (C : Option Addr) (cc : Nat) (w : World) (h : CovAt w c A B C) (hs : Small c) (h0 : errI c = 0) (hcan : canB (needsL c) (mayL c) (handsL c) = true) :
    Ret Tryd.prog 11 [vCov c A ca B cb C cc] w (fun p : Nat × List (SlOf Int) => .tuple #[.slice (some ⟨p.1, 0, none⟩) c.hours.length c.hours.length, .int .i64 0]) (fun p => [.tabG encOf (rowOf encI 1 3) p.1 p.2]) (fun p => p.2.map (·.xs) = (planX c).1) := by
  have h4 := hs.b; have h5 := hs.h
  have hb := h.b; have hh := h.h
  have hf := fine_of h0
  have hh1 := hf.hours
  rw [inB_iff] at hh1
  have h1 := fun W (hb : Below w.heap.size w W) => rcheck2_any c A ca B cb C cc W (h.below hb) hs
  have h2 := fun W (hb : Below w.heap.size w W) => rneeds_any c A ca B cb C cc W (h.below hb) hs hf
  have h3 := fun W (hb : Below w.heap.size w W) => rfree_any c A ca B cb C cc W (h.below hb) hs hf
  have hP : (planX c).1 = (hoursP c.beds.length c.hours.length (startP c)).out := by unfold planX; rw [if_pos h0, if_pos hcan]
  rw [h0] at h1
  rw [hP]
  unfold vCov at h1 h2 h3 ⊢
  unfold cellsCov at h1 h2 h3 ⊢
  (refine ret_enter (n := 123) Tryd.func11 rfl rfl rfl ?_)
  (repeat' (first | ((with_reducible refine isOps ?_); first | refine u_move rfl rfl rfl rfl rfl ?_ | refine u_assign rfl rfl rfl rfl rfl ?_ | (refine x_load rfl rfl rfl rfl rfl ?_; refine ⟨_, rfl, ?_⟩) | (refine u_cmp rfl rfl rfl rfl rfl rfl rfl (fun h => ?_) (fun h => ?_) <;> (dsimp only [cmpP] at h; (try (exfalso; omega)))) | refine u_gives rfl rfl rfl rfl rfl rfl (fun _ _ q => h1 _ q.below) ?_ | (refine u_call rfl rfl rfl rfl rfl rfl (fun _ _ q => h2 _ q.below) ?_; rintro ⟨gn, L⟩ hL; dsimp only [List.cons_append, List.nil_append]) | (refine u_call rfl rfl rfl rfl rfl rfl (fun _ _ q => h3 _ q.below) ?_; rintro ⟨⟨gm, M⟩, gh⟩ hM; dsimp only [List.cons_append, List.nil_append]) | refine u_extract rfl rfl rfl rfl rfl rfl ?_ | (refine u_box rfl rfl rfl rfl rfl rfl (fun b => ?_))) | (with_reducible first | refine u_seq ?_ | refine u_region ?_ | refine u_nil ?_ | refine u_then_n ?_ | refine u_skip ?_) | ((with_reducible refine u_cond_f ?_ ?_); (· exact rfl))))
  simp only at hL hM
  have hcr : ∀ u ∈ c.hours, 0 ≤ u.crew ∧ u.crew ≤ 1000 := fun u hu => by
    have h9 := hf.hour u hu
    unfold hourOk at h9
    simp only [Bool.and_eq_true, inB_iff] at h9
    omega
  have ok0 := startP_ok hf hs hcr
  have hro := rowsOk_of ok0 (L := L) (M := M) hL hM (by omega) (by omega)
  have hLl : L.length = c.beds.length := by
    have := congrArg List.length hL
    rw [needsL_len] at this; simpa using this
  have hMl : M.length = c.beds.length := by
    have := congrArg List.length hM
    simpa [mayL] using this
  have hhl : (handsL c).length = c.hours.length := by simp [handsL]
  have hca := fun (W : World) (a1 : TabAt encI 1 W (some ⟨gn, 0, none⟩) L) (a2 : TabAt encBl 1 W (some ⟨gm, 0, none⟩) M) (a3 : SlAt encI 1 W (some ⟨gh, 0, none⟩) (handsL c)) => rcan_any L (some ⟨gn, 0, none⟩) L.length M (some ⟨gm, 0, none⟩) c.beds.length (handsL c) (some ⟨gh, 0, none⟩) c.hours.length W a1 a2 a3 hro
  rw [hL, hM, hcan, hMl, hhl] at hca
  (repeat' (first | ((with_reducible refine isOps ?_); first | refine u_assign rfl rfl rfl rfl rfl ?_ | (refine x_load rfl rfl rfl rfl rfl ?_; refine ⟨_, rfl, ?_⟩) | refine u_field rfl rfl rfl rfl rfl ?_ | refine u_gives rfl rfl rfl rfl rfl rfl (fun _ _ q => hca _ (tab_at q.own (by (repeat (first | exact Take.here _ _ | apply Take.there)))) (tab_at q.own (by (repeat (first | exact Take.here _ _ | apply Take.there)))) (row_at q.own (by (repeat (first | exact Take.here _ _ | apply Take.there))))) ?_ | refine u_makeC rfl rfl rfl rfl rfl rfl rfl rfl rfl rfl rfl (by omega) (fun go => ?_) | refine u_not rfl rfl rfl rfl rfl ?_ | refine u_len rfl rfl rfl rfl rfl ?_) | (with_reducible first | refine u_seq ?_ | refine u_region ?_ | refine u_nil ?_ | refine u_then_n ?_ | refine u_skip ?_ | refine u_block ?_) | ((with_reducible refine u_cond_f ?_ ?_); (· exact rfl))))
  obtain ⟨b1, hb1⟩ : ∃ b1, b1 = b := ⟨_, rfl⟩
  subst hb1
  refine u_tabNew (enc := encI) (k := 1) (e := 3) (Take.here _ _) ?_
  rw [hLl]
  refine u_loopP (ι := PM) [1, 5, 6, 7, 8] rfl (fun q => q.k ≤ c.hours.length ∧ PMat q (hoursP c.beds.length q.k (startP c))) (fun q => [(9, .int .i64 (q.k : Int))]) (fun q => [.tabG encOf (rowOf encI 1 3) gn q.nd, .tabG encOf (rowOf encBl 1 4) gm q.my, .row encI 1 3 (.slice (some ⟨gh, 0, none⟩) c.hours.length c.hours.length) ((hoursP c.beds.length q.k (startP c)).hands), .tabG encOf (rowOf encI 1 3) go q.ot, .blk b1 (cellsCov c A ca B cb C cc)]) (fun q => c.hours.length - q.k) ⟨0, L, M, List.replicate c.hours.length nilOf⟩ ⟨Nat.zero_le _, hL, hM, by simp [hoursP, startP, nilOf]⟩ (by (first | exact fun _ _ h => lk_nil h | (repeat (first | exact (fun _ _ h => lk_nil h) | (refine lk_sub rfl ?_))))) (by (repeat (first | exact Out.nil _ | (refine Out.cons (by (repeat (first | exact Take.here _ _ | apply Take.there))) ?_)))) ?_
  clear hca hro hLl hMl hL hM L M
  rintro ⟨y, L, M, O⟩ ⟨hy, hL, hM, hO⟩
  simp only at hy hL hM hO
  simp only [zipR, cellsCov, List.cons_append, List.nil_append]
  by_cases hyl : y < c.hours.length
  · have okh := hours_ok ok0 y hy
    (repeat' (first | ((with_reducible refine isOps ?_); first | refine u_move rfl rfl rfl rfl rfl ?_ | refine u_assign rfl rfl rfl rfl rfl ?_ | (refine x_load rfl rfl rfl rfl rfl ?_; refine ⟨_, rfl, ?_⟩) | refine u_field rfl rfl rfl rfl rfl ?_ | (refine u_cmp rfl rfl rfl rfl rfl rfl rfl (fun h => ?_) (fun h => ?_) <;> (dsimp only [cmpP] at h; (try (exfalso; omega)))) | refine u_len rfl rfl rfl rfl rfl ?_) | (with_reducible first | refine u_seq ?_ | refine u_region ?_ | refine u_nil ?_ | refine u_then_n ?_ | refine u_skip ?_ | refine u_block ?_) | ((with_reducible refine u_cond_t ?_ ?_); (· exact rfl))))
    refine u_loopP (ι := PM) [1, 5, 6, 7, 8, 9] rfl (fun q => q.k ≤ c.beds.length ∧ PMat q (stepsP y q.k (hoursP c.beds.length y (startP c)))) (fun q => [(10, .int .i64 (q.k : Int))]) (fun q => [.tabG encOf (rowOf encI 1 3) gn q.nd, .tabG encOf (rowOf encBl 1 4) gm q.my, .row encI 1 3 (.slice (some ⟨gh, 0, none⟩) c.hours.length c.hours.length) ((stepsP y q.k (hoursP c.beds.length y (startP c))).hands), .tabG encOf (rowOf encI 1 3) go q.ot, .blk b1 (cellsCov c A ca B cb C cc)]) (fun q => c.beds.length - q.k) ⟨0, L, M, O⟩ ⟨Nat.zero_le _, hL, hM, hO⟩ (by (first | exact fun _ _ h => lk_nil h | (repeat (first | exact (fun _ _ h => lk_nil h) | (refine lk_sub rfl ?_))))) (by (repeat (first | exact Out.nil _ | (refine Out.cons (by (repeat (first | exact Take.here _ _ | apply Take.there))) ?_)))) ?_
    clear hL hM hO L M O
    rintro ⟨i, L, M, O⟩ ⟨hi, hL, hM, hO⟩
    simp only at hi hL hM hO
    simp only [zipR, cellsCov, List.cons_append, List.nil_append]
    by_cases hil : i < c.beds.length
    · have oki := steps_ok okh hyl i hi
      have hnext : stepsP y (i + 1) (hoursP c.beds.length y (startP c)) = stepP y i (stepsP y i (hoursP c.beds.length y (startP c))) := rfl
      generalize stepsP y i (hoursP c.beds.length y (startP c)) = st at *
      have hLl : L.length = c.beds.length := by have := congrArg List.length hL; rw [oki.nl] at this; simpa using this
      have hMl : M.length = c.beds.length := by have := congrArg List.length hM; rw [oki.ml] at this; simpa using this
      have hHl := oki.hl
      obtain ⟨s, hs1⟩ : ∃ s, L[i]? = some s := ⟨_, List.getElem?_eq_getElem (by omega)⟩
      obtain ⟨t, ht1⟩ : ∃ t, M[i]? = some t := ⟨_, List.getElem?_eq_getElem (by omega)⟩
      have hsr : NRow c.hours.length s.xs := oki.nr _ (by rw [← hL]; exact List.mem_map_of_mem (List.mem_of_getElem? hs1))
      have htl : t.xs.length = c.hours.length := oki.mr _ (by rw [← hM]; exact List.mem_map_of_mem (List.mem_of_getElem? ht1))
      have gs1 : st.nds.getD i [] = s.xs := by rw [← hL]; exact getD_map hs1
      have gt1 : st.may.getD i [] = t.xs := by rw [← hM]; exact getD_map ht1
      have hsl := hsr.len
      have hmx := hsr.max (by omega)
      have htk : takeP st y i = (t.xs.getD y false && (decide (0 < st.hands.getD y 0) && decide (0 < Flow.maxL s.xs))) := by unfold takeP; rw [gs1, gt1]
      obtain ⟨sA, sx, sc⟩ := s
      obtain ⟨tA, tx, tc⟩ := t
      simp only at hsr htl gs1 gt1 hsl hmx htk
      (repeat' (first | ((with_reducible refine isOps ?_); first | refine u_move rfl rfl rfl rfl rfl ?_ | (refine x_load rfl rfl rfl rfl rfl ?_; refine ⟨_, rfl, ?_⟩) | refine u_field rfl rfl rfl rfl rfl ?_ | (refine u_cmp rfl rfl rfl rfl rfl rfl rfl (fun h => ?_) (fun h => ?_) <;> (dsimp only [cmpP] at h; (try (exfalso; omega)))) | refine u_len rfl rfl rfl rfl rfl ?_) | (with_reducible first | refine u_seq ?_ | refine u_region ?_ | refine u_nil ?_ | refine u_then_n ?_ | refine u_skip ?_ | refine u_block ?_) | ((with_reducible refine u_cond_t ?_ ?_); (· exact rfl))))
      refine u_tabOpen i hs1 (by (repeat (first | exact Take.here _ _ | apply Take.there))) ?_
      refine u_rowSome (A := sA) (xs := sx) (k := 1) (e := 3) (enc := encI) (m := sx.length) (c := sc) (Take.there _ (Take.here _ _)) (by omega) ?_
      rintro gs rfl
      refine u_tabOpen i ht1 (by (repeat (first | exact Take.here _ _ | apply Take.there))) ?_
      refine u_rowSome (A := tA) (xs := tx) (k := 1) (e := 4) (enc := encBl) (m := tx.length) (c := tc) (Take.there _ (Take.here _ _)) (by omega) ?_
      rintro gt rfl
      simp only [rowOf]
      have : GetI (L.set i ⟨some ⟨gs, 0, none⟩, sx, sc⟩) i ⟨some ⟨gs, 0, none⟩, sx, sc⟩ := ⟨List.getElem?_set_self (by omega)⟩
      have : GetI (M.set i ⟨some ⟨gt, 0, none⟩, tx, tc⟩) i ⟨some ⟨gt, 0, none⟩, tx, tc⟩ := ⟨List.getElem?_set_self (by omega)⟩
      have : GetI sx (c.hours.length - 1) (Flow.maxL sx) := ⟨by rw [hmx, Flow.getD_lt (by omega)]; simp⟩
      have : GetI tx y (tx.getD y false) := ⟨by rw [Flow.getD_lt (by omega)]; simp⟩
      have : GetI st.hands y (st.hands.getD y 0) := ⟨by rw [Flow.getD_lt (by omega)]; simp⟩
      generalize hz : tx.getD y false = z at *
      generalize hk : st.hands.getD y 0 = kk at *
      generalize hmm : Flow.maxL sx = mm at *
      cases z
      · (refine u_quiet (by kernel_rfl) (by kernel_rfl) (by kernel_rfl) ?_)
        (repeat' (first | ((with_reducible refine isOpsQ ?_); first | refine q_val (e_move rfl rfl) rfl rfl rfl ?_ | refine q_val (e_load' rfl rfl (by exact rfl)) rfl rfl rfl ?_ | refine q_val (e_pick rfl rfl rfl) rfl rfl rfl ?_ | refine q_val (e_assign rfl rfl) rfl rfl rfl ?_ | refine q_not_wanted rfl rfl rfl ?_ | refine q_val (e_index (I := y) rfl rfl rfl (by omega) (by first | omega | (dsimp only; omega))) rfl rfl rfl ?_ | refine q_val (e_index rfl rfl rfl rfl (by omega)) rfl rfl rfl ?_) | (with_reducible refine q_nil ?_)))
        (repeat' (first | ((with_reducible refine isOps ?_); first | refine u_move rfl rfl rfl rfl rfl ?_ | refine u_assign rfl rfl rfl rfl rfl ?_ | (refine x_load rfl rfl rfl rfl rfl ?_; refine ⟨_, rfl, ?_⟩) | refine u_storeR (enc := encBl) (i := y) false rfl rfl rfl rfl rfl rfl rfl rfl (by omega) ?_ | refine u_index (I := y) rfl rfl rfl rfl rfl rfl rfl (by dsimp only; omega) ?_ | refine u_not rfl rfl rfl rfl rfl ?_ | refine u_add1 rfl rfl rfl rfl rfl rfl (by omega) ?_ | refine u_index rfl rfl rfl rfl rfl rfl rfl (by omega) ?_) | (with_reducible first | refine u_seq ?_ | refine u_region ?_ | refine u_nil ?_ | refine u_then_n ?_ | refine u_exit ?_ | refine u_in_same ?_ | refine u_then_e ?_) | ((with_reducible refine u_cond_t ?_ ?_); (· exact rfl))))
        have hstep : stepP y i st = ⟨st.nds, mayO st y i, st.hands, st.out⟩ := by unfold stepP; rw [htk, Bool.false_and]; rfl
        refine u_tabShutR i (tx.set y false) (by simp) ht1 (by (repeat (first | exact Take.here _ _ | apply Take.there))) (by (repeat (first | exact Take.here _ _ | apply Take.there))) (by (repeat (first | exact Take.here _ _ | apply Take.there))) ?_
        refine u_tabShut0 i (re := rowOf encI 1 3) hs1 (by (repeat (first | exact Take.here _ _ | apply Take.there))) (by (repeat (first | exact Take.here _ _ | apply Take.there))) (by (repeat (first | exact Take.here _ _ | apply Take.there))) ?_
        refine u_again (ι := PM) ⟨i + 1, L, M.set i ⟨some ⟨gt, 0, none⟩, tx.set y false, tc⟩, O⟩ (by
          refine ⟨by simp only; omega, ?_⟩
          simp only
          rw [hnext, hstep]
          exact ⟨hL, by simp only; rw [List.map_set, hM]; unfold mayO; rw [gt1], hO⟩) (by simp only; omega) (by (first | exact fun _ _ h => lk_nil h | (repeat (first | exact (fun _ _ h => lk_nil h) | (refine lk_sub rfl ?_))))) (by simp only [hnext, hstep]; (repeat (first | exact Out.nil _ | (refine Out.cons (by (repeat (first | exact Take.here _ _ | apply Take.there))) ?_))))
      · by_cases hk0 : 0 < kk
        · by_cases hm0 : 0 < mm
          · have htk1 : takeP st y i = true := by rw [htk]; simp [hk0, hm0]
            have hn1 := oki.ndsO_ok hil
            have hm1 := oki.mayO_ok (h := y) hil
            have hh1' := oki.handsO_ok hyl htk1
            have hkb := oki.hr kk (by rw [← hk, Flow.getD_lt (by omega)]; exact List.getElem_mem _)
            have hless := fun W hA => rless_any sx (some ⟨gs, 0, none⟩) sc W hA (by omega) (fun x hx => by have := hsr.big x hx; omega)
            (refine u_quiet (by kernel_rfl) (by kernel_rfl) (by kernel_rfl) ?_)
            (repeat' (first | ((with_reducible refine isOpsQ ?_); first | refine q_val (e_move rfl rfl) rfl rfl rfl ?_ | refine q_val (e_load' rfl rfl (by exact rfl)) rfl rfl rfl ?_ | refine q_val (e_field rfl rfl) rfl rfl rfl ?_ | refine q_val (e_pick rfl rfl rfl) rfl rfl rfl ?_ | refine q_val (e_assign rfl rfl) rfl rfl rfl ?_ | (refine q_cmp rfl rfl rfl rfl rfl rfl rfl (fun h => ?_) (fun h => ?_) <;> (dsimp only [cmpP] at h; (try (exfalso; omega)))) | refine q_val (e_index (I := y) rfl rfl rfl (by omega) (by first | omega | (dsimp only; omega))) rfl rfl rfl ?_ | refine q_val (e_index (I := (c.hours.length - 1)) rfl rfl rfl (by omega) (by first | omega | (dsimp only; omega))) rfl rfl rfl ?_ | refine q_val (e_sub rfl rfl rfl (IntWalk.i64_in _ (by omega))) rfl rfl rfl ?_ | refine q_val (e_index rfl rfl rfl rfl (by omega)) rfl rfl rfl ?_ | refine q_val (e_len rfl rfl) rfl rfl rfl ?_) | (with_reducible refine q_nil ?_)))
            (repeat' (first | ((with_reducible refine isOps ?_); first | refine u_move rfl rfl rfl rfl rfl ?_ | refine u_assign rfl rfl rfl rfl rfl ?_ | (refine x_load rfl rfl rfl rfl rfl ?_; refine ⟨_, rfl, ?_⟩) | refine u_storeR (enc := encBl) (i := y) false rfl rfl rfl rfl rfl rfl rfl rfl (by omega) ?_ | refine u_index (I := y) rfl rfl rfl rfl rfl rfl rfl (by dsimp only; omega) ?_ | (refine u_call rfl rfl rfl rfl rfl rfl (fun _ _ q => hless _ (row_at q.own (by (repeat (first | exact Take.here _ _ | apply Take.there))))) ?_; rintro ⟨gl, cl⟩ -; dsimp only [List.cons_append, List.nil_append]) | refine u_storeL (hd := encOf) (i := i) (s := ⟨some ⟨gs, 0, none⟩, sx, sc⟩) ⟨gl, lessL sx, cl⟩ rfl rfl rfl rfl rfl (by simp [encOf, Value.cells]) (by (repeat (first | exact Take.here _ _ | apply Take.there))) (by omega) ?_ | refine u_not rfl rfl rfl rfl rfl ?_ | refine u_sub rfl rfl rfl rfl rfl rfl (IntWalk.i64_in _ (by omega)) ?_ | refine u_index rfl rfl rfl rfl rfl rfl rfl (by omega) ?_) | (with_reducible first | refine u_seq ?_ | refine u_region ?_ | refine u_nil ?_ | refine u_then_n ?_ | refine u_skip ?_) | ((with_reducible refine u_cond_f ?_ ?_); (· exact rfl))))
            refine u_tabShutR i (tx.set y false) (by simp) ht1 (by (repeat (first | exact Take.here _ _ | apply Take.there))) (by (repeat (first | exact Take.here _ _ | apply Take.there))) (by (repeat (first | exact Take.here _ _ | apply Take.there))) ?_
            refine u_tabShut i (re := rowOf encI 1 3) ⟨gl, lessL sx, cl⟩ hs1 (by (repeat (first | exact Take.here _ _ | apply Take.there))) (by (repeat (first | exact Take.here _ _ | apply Take.there))) (by (repeat (first | exact Take.here _ _ | apply Take.there))) ?_
            have ok2 : PSok c.beds.length c.hours.length y i ⟨ndsO st i, mayO st y i, handsO st y, st.out⟩ := ⟨hn1.1, hm1.1, hh1'.1, oki.ol, hn1.2, hm1.2, hh1'.2, oki.or_⟩
            have eL : (L.set i ⟨gl, lessL sx, cl⟩).map (·.xs) = ndsO st i := by rw [List.map_set, hL]; unfold ndsO; rw [gs1]
            have eM : (M.set i ⟨some ⟨gt, 0, none⟩, tx.set y false, tc⟩).map (·.xs) = mayO st y i := by rw [List.map_set, hM]; unfold mayO; rw [gt1]
            have eH : st.hands.set y (kk - 1) = handsO st y := by unfold handsO; rw [hk]
            have lL : (L.set i ⟨gl, lessL sx, cl⟩).length = c.beds.length := by rw [List.length_set]; exact hLl
            have lM : (M.set i ⟨some ⟨gt, 0, none⟩, tx.set y false, tc⟩).length = c.beds.length := by rw [List.length_set]; exact hMl
            have hro := rowsOk_of ok2 eL eM (by omega) (by omega)
            have hca := fun (W : World) a1 a2 a3 => rcan_any (L.set i ⟨gl, lessL sx, cl⟩) (some ⟨gn, 0, none⟩) c.beds.length (M.set i ⟨some ⟨gt, 0, none⟩, tx.set y false, tc⟩) (some ⟨gm, 0, none⟩) c.beds.length (handsO st y) (some ⟨gh, 0, none⟩) c.hours.length W a1 a2 a3 hro
            rw [eL, eM, lL, lM, hh1'.1] at hca
            cases hcb : canB (ndsO st i) (mayO st y i) (handsO st y) with
            | true =>
              rw [hcb] at hca
              have hOl : O.length = c.hours.length := by have := congrArg List.length hO; rw [oki.ol] at this; simpa using this
              obtain ⟨o, ho1⟩ : ∃ o, O[y]? = some o := ⟨_, List.getElem?_eq_getElem (by omega)⟩
              have go1 : st.out.getD y [] = o.xs := by rw [← hO]; exact getD_map ho1
              have hol := oki.or_ y
              rw [if_neg (by omega), if_pos rfl, go1] at hol
              obtain ⟨oA, ox, oc⟩ := o
              simp only at go1 hol
              have : GetI O y ⟨oA, ox, oc⟩ := ⟨ho1⟩
              have hstep : stepP y i st = ⟨ndsO st i, mayO st y i, handsO st y, outO st y i⟩ := by unfold stepP; rw [if_pos htk1, if_pos hcb]
              (repeat' (first | ((with_reducible refine isOps ?_); first | refine u_move rfl rfl rfl rfl rfl ?_ | (refine x_load rfl rfl rfl rfl rfl ?_; refine ⟨_, rfl, ?_⟩) | (refine u_storeR (enc := encI) (i := y) (kk - 1) rfl rfl rfl rfl rfl rfl rfl rfl (by omega) ?_; rw [eH]) | refine u_gives rfl rfl rfl rfl rfl rfl (fun _ _ q => hca _ (tab_at q.own (by (repeat (first | exact Take.here _ _ | apply Take.there)))) (tab_at q.own (by (repeat (first | exact Take.here _ _ | apply Take.there)))) (row_at q.own (by (repeat (first | exact Take.here _ _ | apply Take.there))))) ?_ | refine u_index rfl rfl rfl rfl rfl rfl rfl (by omega) ?_ | (refine x_buildSlice rfl rfl rfl rfl rfl ?_; refine ⟨rfl, _, rfl, fun b => ?_⟩)) | (with_reducible first | refine u_seq ?_ | refine u_region ?_ | refine u_nil ?_ | refine u_then_n ?_) | ((with_reducible refine u_cond_t ?_ ?_); (· exact rfl))))
              refine u_tabOpen y ho1 (by (repeat (first | exact Take.here _ _ | apply Take.there))) ?_
              simp only [rowOf]
              (repeat' (first | ((with_reducible refine isOps ?_); first | refine u_move rfl rfl rfl rfl rfl ?_ | refine u_assign rfl rfl rfl rfl rfl ?_ | (refine u_append (enc := encI) [_] rfl rfl rfl rfl rfl (by (repeat (first | exact Take.here _ _ | apply Take.there))) rfl rfl (src_one (by exact rfl)) (by refine ⟨?_, by decide⟩; (try simp only [List.length_append, List.length_cons, List.length_nil]); omega) (fun A' c' => ?_)) | refine u_storeL (hd := encOf) (i := y) (s := ⟨oA, ox, oc⟩) ⟨A', ox ++ [(i : Int)], c'⟩ rfl rfl rfl rfl rfl (by simp [encOf, Value.cells]) (by (repeat (first | exact Take.here _ _ | apply Take.there))) (by omega) ?_ | refine u_add1 rfl rfl rfl rfl rfl rfl (by omega) ?_ | refine u_index rfl rfl rfl rfl rfl rfl rfl (by omega) ?_) | (with_reducible first | refine u_region ?_ | refine u_nil ?_ | refine u_then_n ?_ | refine u_exit ?_ | refine u_in_same ?_ | refine u_then_e ?_)))
              refine u_tabShut y (re := rowOf encI 1 3) ⟨A', ox ++ [(i : Int)], c'⟩ ho1 (by (repeat (first | exact Take.here _ _ | apply Take.there))) (by (repeat (first | exact Take.here _ _ | apply Take.there))) (by (repeat (first | exact Take.here _ _ | apply Take.there))) ?_
              refine u_again (ι := PM) ⟨i + 1, L.set i ⟨gl, lessL sx, cl⟩, M.set i ⟨some ⟨gt, 0, none⟩, tx.set y false, tc⟩, O.set y ⟨A', ox ++ [(i : Int)], c'⟩⟩ (by
                refine ⟨by simp only; omega, ?_⟩
                simp only
                rw [hnext, hstep]
                exact ⟨eL, eM, by simp only; rw [List.map_set, hO]; unfold outO; rw [go1]⟩) (by simp only; omega) (by (first | exact fun _ _ h => lk_nil h | (repeat (first | exact (fun _ _ h => lk_nil h) | (refine lk_sub rfl ?_))))) (by simp only [hnext, hstep]; (repeat (first | exact Out.nil _ | (refine Out.cons (by (repeat (first | exact Take.here _ _ | apply Take.there))) ?_))))
            | false =>
              rw [hcb] at hca
              have hs2 : (L.set i ⟨gl, lessL sx, cl⟩)[i]? = some ⟨gl, lessL sx, cl⟩ := List.getElem?_set_self (by omega)
              have eB : (L.set i ⟨gl, lessL sx, cl⟩).set i ⟨some ⟨gs, 0, none⟩, sx, sc⟩ = L := by
                rw [List.set_set]
                obtain ⟨h9, h8⟩ := List.getElem?_eq_some_iff.1 hs1
                rw [← h8]; exact List.set_getElem_self h9
              have eH2 : (handsO st y).set y (kk - 1 + 1) = st.hands := by
                rw [← eH, List.set_set, Int.sub_add_cancel, ← hk, Flow.getD_lt (by omega)]; exact List.set_getElem_self _
              have : GetI (handsO st y) y (kk - 1) := ⟨by rw [← eH]; exact List.getElem?_set_self (by omega)⟩
              have hstep : stepP y i st = ⟨st.nds, mayO st y i, st.hands, st.out⟩ := by unfold stepP; rw [if_pos htk1, if_neg (by rw [hcb]; simp)]
              (repeat' (first | ((with_reducible refine isOps ?_); first | refine u_move rfl rfl rfl rfl rfl ?_ | (refine u_storeR (enc := encI) (i := y) (kk - 1) rfl rfl rfl rfl rfl rfl rfl rfl (by omega) ?_; rw [eH]) | refine u_gives rfl rfl rfl rfl rfl rfl (fun _ _ q => hca _ (tab_at q.own (by (repeat (first | exact Take.here _ _ | apply Take.there)))) (tab_at q.own (by (repeat (first | exact Take.here _ _ | apply Take.there)))) (row_at q.own (by (repeat (first | exact Take.here _ _ | apply Take.there))))) ?_ | refine u_index rfl rfl rfl rfl rfl rfl rfl (by omega) ?_) | (with_reducible first | refine u_seq ?_ | refine u_region ?_ | refine u_nil ?_ | refine u_then_n ?_ | refine u_skip ?_) | ((with_reducible refine u_cond_f ?_ ?_); (· exact rfl))))
              refine u_tabOpen i hs2 (by (repeat (first | exact Take.here _ _ | apply Take.there))) ?_
              (repeat' (first | ((with_reducible refine isOps ?_); first | refine u_move rfl rfl rfl rfl rfl ?_ | refine u_assign rfl rfl rfl rfl rfl ?_ | (refine x_load rfl rfl rfl rfl rfl ?_; refine ⟨_, rfl, ?_⟩) | refine u_storeL (hd := encOf) (i := i) (s := ⟨gl, lessL sx, cl⟩) ⟨some ⟨gs, 0, none⟩, sx, sc⟩ rfl rfl rfl rfl rfl (by simp [encOf, Value.cells]) (by (repeat (first | exact Take.here _ _ | apply Take.there))) (by omega) ?_ | (refine u_storeR (enc := encI) (i := y) (kk - 1 + 1) rfl rfl rfl rfl rfl rfl rfl rfl (by omega) ?_; rw [eH2]) | refine u_add1 rfl rfl rfl rfl rfl rfl (by omega) ?_ | refine u_add rfl rfl rfl rfl rfl rfl (IntWalk.i64_in _ (by omega)) ?_ | refine u_index rfl rfl rfl rfl rfl rfl rfl (by omega) ?_) | (with_reducible first | refine u_region ?_ | refine u_nil ?_ | refine u_then_n ?_ | refine u_in_n ?_)))
              refine u_tabShut i (re := rowOf encI 1 3) ⟨some ⟨gs, 0, none⟩, sx, sc⟩ hs2 (by (repeat (first | exact Take.here _ _ | apply Take.there))) (by (repeat (first | exact Take.here _ _ | apply Take.there))) (by (repeat (first | exact Take.here _ _ | apply Take.there))) ?_
              rw [eB]
              refine u_again (ι := PM) ⟨i + 1, L, M.set i ⟨some ⟨gt, 0, none⟩, tx.set y false, tc⟩, O⟩ (by
                refine ⟨by simp only; omega, ?_⟩
                simp only
                rw [hnext, hstep]
                exact ⟨hL, eM, hO⟩) (by simp only; omega) (by (first | exact fun _ _ h => lk_nil h | (repeat (first | exact (fun _ _ h => lk_nil h) | (refine lk_sub rfl ?_))))) (by simp only [hnext, hstep]; (repeat (first | exact Out.nil _ | (refine Out.cons (by (repeat (first | exact Take.here _ _ | apply Take.there))) ?_))))
          · (refine u_quiet (by kernel_rfl) (by kernel_rfl) (by kernel_rfl) ?_)
            (repeat' (first | ((with_reducible refine isOpsQ ?_); first | refine q_val (e_move rfl rfl) rfl rfl rfl ?_ | refine q_val (e_load' rfl rfl (by exact rfl)) rfl rfl rfl ?_ | refine q_val (e_field rfl rfl) rfl rfl rfl ?_ | refine q_val (e_pick rfl rfl rfl) rfl rfl rfl ?_ | refine q_val (e_assign rfl rfl) rfl rfl rfl ?_ | (refine q_cmp rfl rfl rfl rfl rfl rfl rfl (fun h => ?_) (fun h => ?_) <;> (dsimp only [cmpP] at h; (try (exfalso; omega)))) | refine q_val (e_index (I := y) rfl rfl rfl (by omega) (by first | omega | (dsimp only; omega))) rfl rfl rfl ?_ | refine q_val (e_index (I := (c.hours.length - 1)) rfl rfl rfl (by omega) (by first | omega | (dsimp only; omega))) rfl rfl rfl ?_ | refine q_val (e_sub rfl rfl rfl (IntWalk.i64_in _ (by omega))) rfl rfl rfl ?_ | refine q_val (e_index rfl rfl rfl rfl (by omega)) rfl rfl rfl ?_ | refine q_val (e_len rfl rfl) rfl rfl rfl ?_) | (with_reducible refine q_nil ?_)))
            (repeat' (first | ((with_reducible refine isOps ?_); first | refine u_move rfl rfl rfl rfl rfl ?_ | refine u_assign rfl rfl rfl rfl rfl ?_ | (refine x_load rfl rfl rfl rfl rfl ?_; refine ⟨_, rfl, ?_⟩) | refine u_storeR (enc := encBl) (i := y) false rfl rfl rfl rfl rfl rfl rfl rfl (by omega) ?_ | refine u_index (I := y) rfl rfl rfl rfl rfl rfl rfl (by dsimp only; omega) ?_ | refine u_not rfl rfl rfl rfl rfl ?_ | refine u_add1 rfl rfl rfl rfl rfl rfl (by omega) ?_ | refine u_index rfl rfl rfl rfl rfl rfl rfl (by omega) ?_) | (with_reducible first | refine u_seq ?_ | refine u_region ?_ | refine u_nil ?_ | refine u_then_n ?_ | refine u_exit ?_ | refine u_in_same ?_ | refine u_then_e ?_) | ((with_reducible refine u_cond_t ?_ ?_); (· exact rfl))))
            have hstep : stepP y i st = ⟨st.nds, mayO st y i, st.hands, st.out⟩ := by unfold stepP; rw [htk, if_neg (by simp; omega)]
            refine u_tabShutR i (tx.set y false) (by simp) ht1 (by (repeat (first | exact Take.here _ _ | apply Take.there))) (by (repeat (first | exact Take.here _ _ | apply Take.there))) (by (repeat (first | exact Take.here _ _ | apply Take.there))) ?_
            refine u_tabShut0 i (re := rowOf encI 1 3) hs1 (by (repeat (first | exact Take.here _ _ | apply Take.there))) (by (repeat (first | exact Take.here _ _ | apply Take.there))) (by (repeat (first | exact Take.here _ _ | apply Take.there))) ?_
            refine u_again (ι := PM) ⟨i + 1, L, M.set i ⟨some ⟨gt, 0, none⟩, tx.set y false, tc⟩, O⟩ (by
              refine ⟨by simp only; omega, ?_⟩
              simp only
              rw [hnext, hstep]
              exact ⟨hL, by simp only; rw [List.map_set, hM]; unfold mayO; rw [gt1], hO⟩) (by simp only; omega) (by (first | exact fun _ _ h => lk_nil h | (repeat (first | exact (fun _ _ h => lk_nil h) | (refine lk_sub rfl ?_))))) (by simp only [hnext, hstep]; (repeat (first | exact Out.nil _ | (refine Out.cons (by (repeat (first | exact Take.here _ _ | apply Take.there))) ?_))))
        · (refine u_quiet (by kernel_rfl) (by kernel_rfl) (by kernel_rfl) ?_)
          (repeat' (first | ((with_reducible refine isOpsQ ?_); first | refine q_val (e_move rfl rfl) rfl rfl rfl ?_ | refine q_val (e_load' rfl rfl (by exact rfl)) rfl rfl rfl ?_ | refine q_val (e_pick rfl rfl rfl) rfl rfl rfl ?_ | refine q_val (e_assign rfl rfl) rfl rfl rfl ?_ | refine q_not_wanted rfl rfl rfl ?_ | (refine q_cmp rfl rfl rfl rfl rfl rfl rfl (fun h => ?_) (fun h => ?_) <;> (dsimp only [cmpP] at h; (try (exfalso; omega)))) | refine q_val (e_index (I := y) rfl rfl rfl (by omega) (by first | omega | (dsimp only; omega))) rfl rfl rfl ?_ | refine q_val (e_index rfl rfl rfl rfl (by omega)) rfl rfl rfl ?_) | (with_reducible refine q_nil ?_)))
          (repeat' (first | ((with_reducible refine isOps ?_); first | refine u_move rfl rfl rfl rfl rfl ?_ | refine u_assign rfl rfl rfl rfl rfl ?_ | (refine x_load rfl rfl rfl rfl rfl ?_; refine ⟨_, rfl, ?_⟩) | refine u_storeR (enc := encBl) (i := y) false rfl rfl rfl rfl rfl rfl rfl rfl (by omega) ?_ | refine u_index (I := y) rfl rfl rfl rfl rfl rfl rfl (by dsimp only; omega) ?_ | refine u_not rfl rfl rfl rfl rfl ?_ | refine u_add1 rfl rfl rfl rfl rfl rfl (by omega) ?_ | refine u_index rfl rfl rfl rfl rfl rfl rfl (by omega) ?_) | (with_reducible first | refine u_seq ?_ | refine u_region ?_ | refine u_nil ?_ | refine u_then_n ?_ | refine u_exit ?_ | refine u_in_same ?_ | refine u_then_e ?_) | ((with_reducible refine u_cond_t ?_ ?_); (· exact rfl))))
          have hstep : stepP y i st = ⟨st.nds, mayO st y i, st.hands, st.out⟩ := by unfold stepP; rw [htk, if_neg (by simp; omega)]
          refine u_tabShutR i (tx.set y false) (by simp) ht1 (by (repeat (first | exact Take.here _ _ | apply Take.there))) (by (repeat (first | exact Take.here _ _ | apply Take.there))) (by (repeat (first | exact Take.here _ _ | apply Take.there))) ?_
          refine u_tabShut0 i (re := rowOf encI 1 3) hs1 (by (repeat (first | exact Take.here _ _ | apply Take.there))) (by (repeat (first | exact Take.here _ _ | apply Take.there))) (by (repeat (first | exact Take.here _ _ | apply Take.there))) ?_
          refine u_again (ι := PM) ⟨i + 1, L, M.set i ⟨some ⟨gt, 0, none⟩, tx.set y false, tc⟩, O⟩ (by
            refine ⟨by simp only; omega, ?_⟩
            simp only
            rw [hnext, hstep]
            exact ⟨hL, by simp only; rw [List.map_set, hM]; unfold mayO; rw [gt1], hO⟩) (by simp only; omega) (by (first | exact fun _ _ h => lk_nil h | (repeat (first | exact (fun _ _ h => lk_nil h) | (refine lk_sub rfl ?_))))) (by simp only [hnext, hstep]; (repeat (first | exact Out.nil _ | (refine Out.cons (by (repeat (first | exact Take.here _ _ | apply Take.there))) ?_))))
    · obtain rfl : i = c.beds.length := by omega
      (repeat' (first | ((with_reducible refine isOps ?_); first | refine u_move rfl rfl rfl rfl rfl ?_ | refine u_assign rfl rfl rfl rfl rfl ?_ | (refine x_load rfl rfl rfl rfl rfl ?_; refine ⟨_, rfl, ?_⟩) | refine u_field rfl rfl rfl rfl rfl ?_ | (refine u_cmp rfl rfl rfl rfl rfl rfl rfl (fun h => ?_) (fun h => ?_) <;> (dsimp only [cmpP] at h; (try (exfalso; omega)))) | refine u_add1 rfl rfl rfl rfl rfl rfl (by omega) ?_ | refine u_len rfl rfl rfl rfl rfl ?_) | (with_reducible first | refine u_seq ?_ | refine u_region ?_ | refine u_nil ?_ | refine u_then_n ?_ | refine u_exit ?_ | refine u_in_n ?_ | refine u_in_same ?_ | refine u_then_e ?_) | ((with_reducible refine u_cond_f ?_ ?_); (· exact rfl))))
      exact u_again (ι := PM) ⟨y + 1, L, M, O⟩ (by exact ⟨by simp only; omega, hL, hM, hO⟩) (by simp only; omega) (by (first | exact fun _ _ h => lk_nil h | (repeat (first | exact (fun _ _ h => lk_nil h) | (refine lk_sub rfl ?_))))) (by (repeat (first | exact Out.nil _ | (refine Out.cons (by (repeat (first | exact Take.here _ _ | apply Take.there))) ?_))))
  · obtain rfl : y = c.hours.length := by omega
    (repeat' (first | ((with_reducible refine isOps ?_); first | refine u_move rfl rfl rfl rfl rfl ?_ | refine u_assign rfl rfl rfl rfl rfl ?_ | (refine x_load rfl rfl rfl rfl rfl ?_; refine ⟨_, rfl, ?_⟩) | refine u_field rfl rfl rfl rfl rfl ?_ | (refine u_cmp rfl rfl rfl rfl rfl rfl rfl (fun h => ?_) (fun h => ?_) <;> (dsimp only [cmpP] at h; (try (exfalso; omega)))) | refine u_len rfl rfl rfl rfl rfl ?_) | (with_reducible first | refine u_seq ?_ | refine u_region ?_ | refine u_nil ?_ | refine u_then_n ?_ | refine u_ret ?_ | refine u_exit ?_ | refine u_in_same ?_ | refine u_then_e ?_) | ((with_reducible refine u_cond_f ?_ ?_); (· exact rfl))))
    exact u_done (by (exact ResL.cons (by exact Res1.tmp rfl) (ResL.cons (by exact Res1.tmp rfl) ResL.nil))) (go, O) hO (by simp [resV]) (fun _ h => h.sub (by (repeat (first | exact Out.nil _ | (refine Out.cons (by (repeat (first | exact Take.here _ _ | apply Take.there))) ?_)))))
end Go.Proofs.YtdigopgncfhiaaaDoor
/- Ice: where there is no plan, by the reference. -/
namespace Go.Proofs.YtdigopgncfhiaaaDoor
open Go.RowKit
set_option linter.unusedSimpArgs false
set_option linter.unusedVariables false
set_option maxRecDepth 20000
theorem rplan_err (c : Cov) (A : Option Addr) (ca : Nat) (B : Option Addr) (cb : Nat) (C : Option Addr) (cc : Nat) (w : World) (h : CovAt w c A B C) (hs : Small c) (h0 : errI c ≠ 0) :
    Gv Tryd.prog 11 [vCov c A ca B cb C cc] w (.tuple #[.slice none 0 0, .int .i64 (errI c)]) := by
  have h1 := fun W (hb : Below w.heap.size w W) => rcheck2_any c A ca B cb C cc W (h.below hb) hs
  unfold Gv vCov
  unfold vCov at h1
  generalize errI c = e at *
  unfold cellsCov at h1 ⊢
  (refine ret_enter (n := 123) Tryd.func11 rfl rfl rfl ?_)
  (repeat' (first | ((with_reducible refine isOps ?_); first | refine u_move rfl rfl rfl rfl rfl ?_ | refine u_assign rfl rfl rfl rfl rfl ?_ | (refine x_load rfl rfl rfl rfl rfl ?_; refine ⟨_, rfl, ?_⟩) | (refine u_cmp rfl rfl rfl rfl rfl rfl rfl (fun h => ?_) (fun h => ?_) <;> (dsimp only [cmpP] at h; (try (exfalso; omega)))) | refine u_gives rfl rfl rfl rfl rfl rfl (fun _ _ q => h1 _ q.below) ?_ | (refine u_box rfl rfl rfl rfl rfl rfl (fun b => ?_))) | (with_reducible first | refine u_seq ?_ | refine u_region ?_ | refine u_nil ?_ | refine u_then_n ?_ | refine u_ret ?_ | refine u_then_r ?_) | ((with_reducible refine u_cond_t ?_ ?_); (· exact rfl))))
  exact u_done (by (exact ResL.cons (by exact Res1.tmp rfl) (ResL.cons (by exact Res1.tmp rfl) ResL.nil))) () trivial rfl (fun _ h => h.sub (by (repeat (first | exact Out.nil _ | (refine Out.cons (by (repeat (first | exact Take.here _ _ | apply Take.there))) ?_)))))
set_option maxHeartbeats 2000000 in
theorem rplan_cant (c : Cov) (A : Option Addr) (ca : Nat) (B : Option Addr) (cb : Nat) (C : Option Addr) (cc : Nat) (w : World) (h : CovAt w c A B C) (hs : Small c) (h0 : errI c = 0) (hcan : canB (needsL c) (mayL c) (handsL c) = false) :
    Gv Tryd.prog 11 [vCov c A ca B cb C cc] w (.tuple #[.slice none 0 0, .int .i64 8]) := by
  have h4 := hs.b; have h5 := hs.h
  have hf := fine_of h0
  have hh1 := hf.hours
  rw [inB_iff] at hh1
  have h1 := fun W (hb : Below w.heap.size w W) => rcheck2_any c A ca B cb C cc W (h.below hb) hs
  have h2 := fun W (hb : Below w.heap.size w W) => rneeds_any c A ca B cb C cc W (h.below hb) hs hf
  have h3 := fun W (hb : Below w.heap.size w W) => rfree_any c A ca B cb C cc W (h.below hb) hs hf
  have hcr : ∀ u ∈ c.hours, 0 ≤ u.crew ∧ u.crew ≤ 1000 := fun u hu => by
    have h9 := hf.hour u hu
    unfold hourOk at h9
    simp only [Bool.and_eq_true, inB_iff] at h9
    omega
  have ok0 := startP_ok hf hs hcr
  have hhl : (handsL c).length = c.hours.length := by simp [handsL]
  rw [h0] at h1
  unfold Gv
  unfold vCov at h1 h2 h3 ⊢
  unfold cellsCov at h1 h2 h3 ⊢
  (refine ret_enter (n := 123) Tryd.func11 rfl rfl rfl ?_)
  (repeat' (first | ((with_reducible refine isOps ?_); first | refine u_move rfl rfl rfl rfl rfl ?_ | refine u_assign rfl rfl rfl rfl rfl ?_ | (refine x_load rfl rfl rfl rfl rfl ?_; refine ⟨_, rfl, ?_⟩) | (refine u_cmp rfl rfl rfl rfl rfl rfl rfl (fun h => ?_) (fun h => ?_) <;> (dsimp only [cmpP] at h; (try (exfalso; omega)))) | refine u_gives rfl rfl rfl rfl rfl rfl (fun _ _ q => h1 _ q.below) ?_ | (refine u_call rfl rfl rfl rfl rfl rfl (fun _ _ q => h2 _ q.below) ?_; rintro ⟨gn, L⟩ hL; dsimp only [List.cons_append, List.nil_append]) | (refine u_call rfl rfl rfl rfl rfl rfl (fun _ _ q => h3 _ q.below) ?_; rintro ⟨⟨gm, M⟩, gh⟩ hM; dsimp only [List.cons_append, List.nil_append]) | refine u_extract rfl rfl rfl rfl rfl rfl ?_ | (refine u_box rfl rfl rfl rfl rfl rfl (fun b => ?_))) | (with_reducible first | refine u_seq ?_ | refine u_region ?_ | refine u_nil ?_ | refine u_then_n ?_ | refine u_skip ?_) | ((with_reducible refine u_cond_f ?_ ?_); (· exact rfl))))
  simp only at hL hM
  have hro := rowsOk_of ok0 (L := L) (M := M) hL hM (by omega) (by omega)
  have hMl : M.length = c.beds.length := by
    have := congrArg List.length hM
    simpa [mayL] using this
  have hca := fun (W : World) (a1 : TabAt encI 1 W (some ⟨gn, 0, none⟩) L) (a2 : TabAt encBl 1 W (some ⟨gm, 0, none⟩) M) (a3 : SlAt encI 1 W (some ⟨gh, 0, none⟩) (handsL c)) => rcan_any L (some ⟨gn, 0, none⟩) L.length M (some ⟨gm, 0, none⟩) c.beds.length (handsL c) (some ⟨gh, 0, none⟩) c.hours.length W a1 a2 a3 hro
  rw [hL, hM, hcan, hMl, hhl] at hca
  (repeat' (first | ((with_reducible refine isOps ?_); first | refine u_assign rfl rfl rfl rfl rfl ?_ | refine u_gives rfl rfl rfl rfl rfl rfl (fun _ _ q => hca _ (tab_at q.own (by (repeat (first | exact Take.here _ _ | apply Take.there)))) (tab_at q.own (by (repeat (first | exact Take.here _ _ | apply Take.there)))) (row_at q.own (by (repeat (first | exact Take.here _ _ | apply Take.there))))) ?_ | refine u_not rfl rfl rfl rfl rfl ?_) | (with_reducible first | refine u_seq ?_ | refine u_region ?_ | refine u_nil ?_ | refine u_then_n ?_ | refine u_ret ?_ | refine u_then_r ?_) | ((with_reducible refine u_cond_t ?_ ?_); (· exact rfl))))
  exact u_done (by (exact ResL.cons (by exact Res1.tmp rfl) (ResL.cons (by exact Res1.tmp rfl) ResL.nil))) () trivial rfl (fun _ h => h.sub (by (repeat (first | exact Out.nil _ | (refine Out.cons (by (repeat (first | exact Take.here _ _ | apply Take.there))) ?_)))))
end Go.Proofs.YtdigopgncfhiaaaDoor
