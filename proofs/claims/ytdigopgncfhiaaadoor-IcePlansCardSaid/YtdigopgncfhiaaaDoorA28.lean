/- Ice: which hours are short, by the program. -/
import Derived.Test.YtdigopgncfhiaaaDoorA27
import Derived.Test.YtdigopgncfhiaaaDoorA26
import Derived.Test.YtdigopgncfhiaaaDoorA11
namespace Go.Proofs.YtdigopgncfhiaaaDoor
open Go.RowKit
set_option linter.unusedSimpArgs false
set_option linter.unusedVariables false
set_option maxRecDepth 20000
set_option maxHeartbeats 8000000 in
theorem iShort_any (c : Cov) (A : Option Addr) (ca : Nat) (B : Option Addr) (cb : Nat) (C : Option Addr) (cc : Nat) (w : World) (h : CovAt w c A B C) (hs : Small c) (hG : InC w 0 0 limC) :
    NewSl encI 1 (shortX c).2.1 (fun v => .tuple #[.int .i64 (shortX c).1, v, .int .i64 (shortX c).2.2]) Tryd.prog 12 [vCov c A ca B cb C cc] w := by
  have h4 := hs.b; have h5 := hs.h
  refine Ret.newsl ?_
  by_cases h0 : errI c = 0
  · have hf := fine_of h0
    have hh1 := hf.hours
    rw [inB_iff] at hh1
    have h1 := fun W (hb : Below w.heap.size w W) => iopen_ok c A ca B cb C cc W (h.below hb) hs h0
    have h2 := fun W (hb : Below w.heap.size w W) g (hr : InC W g 0 (cellsCov c A ca B cb C cc)) => Two.iroster_any c A ca B cb C cc g W hr (hG.below hb) (h.below hb) hs hf
    have ok0 := startP_ok hf hs (crew_ok hf)
    have hX : shortX c = shortF c c.hours.length 0 := by unfold shortX; rw [if_pos h0]
    rw [hX]
    have hhl : (handsL c).length = c.hours.length := by simp [handsL]
    unfold vCov at h1 ⊢
    unfold cellsCov at h1 h2 ⊢
    (refine ret_enter (n := 72) Tryd.func12 rfl rfl rfl ?_)
    (repeat' (first | ((with_reducible refine isOps ?_); first | refine u_move rfl rfl rfl rfl rfl ?_ | refine u_assign rfl rfl rfl rfl rfl ?_ | (refine x_load rfl rfl rfl rfl rfl ?_; refine ⟨_, rfl, ?_⟩) | refine u_field rfl rfl rfl rfl rfl ?_ | (refine u_cmp rfl rfl rfl rfl rfl rfl rfl (fun h => ?_) (fun h => ?_) <;> (dsimp only [cmpP] at h; (try (exfalso; omega)))) | (refine u_call rfl rfl rfl rfl rfl rfl (fun _ _ q => h1 _ q.below) ?_; rintro g -; dsimp only [List.cons_append, List.nil_append]) | (refine u_call rfl rfl rfl rfl rfl rfl (fun _ _ q => h2 _ q.below g (cells_by q.own (Below.refl _ _) rfl)) ?_; rintro ⟨⟨gn, L⟩, ⟨gm, M⟩, gh⟩ ⟨hL, hM⟩; dsimp only [List.cons_append, List.nil_append]) | refine u_extract rfl rfl rfl rfl rfl rfl ?_ | refine u_len rfl rfl rfl rfl rfl ?_ | (refine x_store rfl rfl rfl rfl rfl ?_; refine And.intro rfl (And.intro (by first | decide | exact Nat.le_of_ble_eq_true rfl | (simp; omega)) ⟨_, rfl, ?_⟩)) | (refine u_alloc rfl rfl rfl rfl (fun b => ?_)) | (refine u_box rfl rfl rfl rfl rfl rfl (fun b => ?_))) | (with_reducible first | refine u_seq ?_ | refine u_region ?_ | refine u_nil ?_ | refine u_then_n ?_ | refine u_skip ?_ | refine u_block ?_) | ((with_reducible refine u_cond_f ?_ ?_); (· exact rfl))))
    simp only at hL hM
    have hro : RowsOk L M (handsL c) := rowsOk_of ok0 hL hM (by omega) (by omega)
    have hLl : L.length = c.beds.length := by have := congrArg List.length hL; rw [needsL_len] at this; simpa using this
    have hMl : M.length = c.beds.length := by have := congrArg List.length hM; simpa [mayL] using this
    have hLr : ∀ s ∈ L, s.xs.length = c.hours.length := fun s hs => needsL_row _ (by rw [← hL]; exact List.mem_map_of_mem hs)
    have hMr : ∀ s ∈ M, s.xs.length = c.hours.length := fun s hs => ok0.mr _ (by show _ ∈ mayL c; rw [← hM]; exact List.mem_map_of_mem hs)
    rename_i b1
    obtain ⟨b6, hb6⟩ : ∃ x, x = b := ⟨_, rfl⟩
    subst hb6
    refine u_loopP (ι := Nat) [1, 6, 26] rfl (fun y => y ≤ c.hours.length ∧ shortF c c.hours.length 0 = shortF c (c.hours.length - y) y) (fun y => [(27, .int .i64 (y : Int))]) (fun y => [.tabG encOf (rowOf encI 1 3) gn L, .tabG encOf (rowOf encBl 1 4) gm M, .row encI 1 3 (.slice (some ⟨gh, 0, none⟩) c.hours.length c.hours.length) (handsL c), .blk b1 (cellsCov c A ca B cb C cc), .blk b6 (cellsRo (some ⟨gn, 0, none⟩) c.beds.length c.beds.length (some ⟨gm, 0, none⟩) c.beds.length c.beds.length (some ⟨gh, 0, none⟩) c.hours.length c.hours.length)]) (fun y => c.hours.length - y) 0 ⟨Nat.zero_le _, rfl⟩ (by (first | exact fun _ _ h => lk_nil h | (repeat (first | exact (fun _ _ h => lk_nil h) | (refine lk_sub rfl ?_))))) (by (repeat (first | exact Out.nil _ | (refine Out.cons (by (repeat (first | exact Take.here _ _ | apply Take.there))) ?_)))) ?_
    rintro y ⟨hy, hF⟩
    simp only [zipR, cellsCov, cellsRo, List.cons_append, List.nil_append]
    by_cases hyl : y < c.hours.length
    · have hp : 2 ^ y ≤ 2 ^ 12 := Nat.pow_le_pow_right (by omega) (by omega)
      have hsh := fun W (a1 : TabAt encI 1 W (some ⟨gn, 0, none⟩) L) (a2 : TabAt encBl 1 W (some ⟨gm, 0, none⟩) M) (a3 : SlAt encI 1 W (some ⟨gh, 0, none⟩) (handsL c)) m (hm : m < 1000000) => ishort_any L (some ⟨gn, 0, none⟩) c.beds.length M (some ⟨gm, 0, none⟩) c.beds.length (handsL c) (some ⟨gh, 0, none⟩) c.hours.length y m W a1 a2 a3 hro hm (fun s hs => by rw [hLr s hs]; exact hyl) (fun s hs => by rw [hMr s hs]; exact hyl) (by omega)
      rw [hL, hM, hLl, hMl, hhl] at hsh
      have hsB : ∀ m, decide (0 < shortI (needsL c) (mayL c) (handsL c) y m) = shortB c y m := fun _ => rfl
      simp only [hsB] at hsh
      unfold cellsRo at hsh
      generalize hP : 2 ^ y = N at hp
      (repeat' (first | ((with_reducible refine isOps ?_); first | refine u_move rfl rfl rfl rfl rfl ?_ | refine u_assign rfl rfl rfl rfl rfl ?_ | (refine u_cmp rfl rfl rfl rfl rfl rfl rfl (fun h => ?_) (fun h => ?_) <;> (dsimp only [cmpP] at h; (try (exfalso; omega)))) | refine u_val rfl rfl rfl (e_shl1 rfl rfl rfl (by omega)) ?_) | (with_reducible first | refine u_seq ?_ | refine u_region ?_ | refine u_nil ?_ | refine u_then_n ?_ | refine u_skip ?_ | refine u_block ?_) | ((with_reducible refine u_cond_t ?_ ?_); (· exact rfl))))
      refine u_row_nil (α := SlOf Int) encOf 1 33 ?_
      refine u_allNil (rowOf encI 1 3) ?_
      refine u_loopP (ι := Nat × Option Addr × Nat × List (SlOf Int)) [1, 6, 7, 26, 27, 31] rfl (fun p => p.1 ≤ N ∧ p.2.2.2.map (·.xs) = setsX c y p.1) (fun p => [(32, .int .i64 (p.1 : Int)), (8, .slice p.2.1 p.2.2.2.length p.2.2.1)]) (fun p => [.row encOf 1 33 (.slice p.2.1 p.2.2.2.length p.2.2.1) p.2.2.2, .all (p.2.2.2.map (rowOf encI 1 3)), .tabG encOf (rowOf encI 1 3) gn L, .tabG encOf (rowOf encBl 1 4) gm M, .row encI 1 3 (.slice (some ⟨gh, 0, none⟩) c.hours.length c.hours.length) (handsL c), .blk b1 (cellsCov c A ca B cb C cc), .blk b6 (cellsRo (some ⟨gn, 0, none⟩) c.beds.length c.beds.length (some ⟨gm, 0, none⟩) c.beds.length c.beds.length (some ⟨gh, 0, none⟩) c.hours.length c.hours.length)]) (fun p => N - p.1) (0, none, 0, []) ⟨Nat.zero_le _, rfl⟩ (by (first | exact fun _ _ h => lk_nil h | (repeat (first | exact (fun _ _ h => lk_nil h) | (refine lk_sub rfl ?_))))) (by (repeat (first | exact Out.nil _ | (refine Out.cons (by (repeat (first | exact Take.here _ _ | apply Take.there))) ?_)))) ?_
      rintro ⟨k, A1, c1, S⟩ ⟨hk, hS⟩
      simp only at hk hS
      simp only [zipR, cellsCov, cellsRo, List.cons_append, List.nil_append]
      have hSl : S.length ≤ k := by have := congrArg List.length hS; have := setsX_len c y k; simp at *; omega
      have hSr : ∀ s ∈ S, s.xs.length ≤ 12 := fun s hs => by
        have h9 : s.xs ∈ setsX c y k := by rw [← hS]; exact List.mem_map_of_mem hs
        obtain ⟨m, _, e⟩ := List.mem_map.1 h9
        rw [← e]
        have := setL_len m y
        omega
      by_cases hkl : k < N
      · have hs1 := fun W a1 a2 a3 => hsh W a1 a2 a3 k (by omega)
        cases hz : shortB c y k with
        | false =>
          rw [hz] at hs1
          (repeat' (first | ((with_reducible refine isOps ?_); first | refine u_move rfl rfl rfl rfl rfl ?_ | refine u_assign rfl rfl rfl rfl rfl ?_ | (refine x_load rfl rfl rfl rfl rfl ?_; refine ⟨_, rfl, ?_⟩) | (refine u_cmp rfl rfl rfl rfl rfl rfl rfl (fun h => ?_) (fun h => ?_) <;> (dsimp only [cmpP] at h; (try (exfalso; omega)))) | refine u_gives rfl rfl rfl rfl rfl rfl (fun _ _ q => hs1 _ (tab_at q.own (by (repeat (first | exact Take.here _ _ | apply Take.there)))) (tab_at q.own (by (repeat (first | exact Take.here _ _ | apply Take.there)))) (row_at q.own (by (repeat (first | exact Take.here _ _ | apply Take.there))))) ?_ | refine u_not rfl rfl rfl rfl rfl ?_ | refine u_add1 rfl rfl rfl rfl rfl rfl (by omega) ?_) | (with_reducible first | refine u_seq ?_ | refine u_region ?_ | refine u_nil ?_ | refine u_then_n ?_ | refine u_skip ?_ | refine u_block ?_ | refine u_exit ?_ | refine u_in_same ?_ | refine u_then_e ?_) | ((with_reducible refine u_cond_t ?_ ?_); (· exact rfl))))
          exact u_again (ι := Nat × Option Addr × Nat × List (SlOf Int)) (k + 1, A1, c1, S) (by exact ⟨by simp only; omega, by simp only; rw [setsX_no hz]; exact hS⟩) (by simp only; omega) (by (first | exact fun _ _ h => lk_nil h | (repeat (first | exact (fun _ _ h => lk_nil h) | (refine lk_sub rfl ?_))))) (by (repeat (first | exact Out.nil _ | (refine Out.cons (by (repeat (first | exact Take.here _ _ | apply Take.there))) ?_))))
        | true =>
          rw [hz] at hs1
          (repeat' (first | ((with_reducible refine isOps ?_); first | refine u_move rfl rfl rfl rfl rfl ?_ | refine u_assign rfl rfl rfl rfl rfl ?_ | (refine x_load rfl rfl rfl rfl rfl ?_; refine ⟨_, rfl, ?_⟩) | (refine u_cmp rfl rfl rfl rfl rfl rfl rfl (fun h => ?_) (fun h => ?_) <;> (dsimp only [cmpP] at h; (try (exfalso; omega)))) | refine u_gives rfl rfl rfl rfl rfl rfl (fun _ _ q => hs1 _ (tab_at q.own (by (repeat (first | exact Take.here _ _ | apply Take.there)))) (tab_at q.own (by (repeat (first | exact Take.here _ _ | apply Take.there)))) (row_at q.own (by (repeat (first | exact Take.here _ _ | apply Take.there))))) ?_ | (refine u_call rfl rfl rfl rfl rfl rfl (fun _ _ q => ones_any _ _) ?_; rintro m0 hm0; dsimp only [List.cons_append, List.nil_append]) | refine u_anyConv rfl rfl rfl rfl rfl (fun _ => ?_) | refine u_makeCap encI rfl rfl rfl rfl rfl rfl rfl rfl rfl rfl (by omega) (fun gl => ?_) | refine u_not rfl rfl rfl rfl rfl ?_) | (with_reducible first | refine u_seq ?_ | refine u_region ?_ | refine u_nil ?_ | refine u_then_n ?_ | refine u_skip ?_ | refine u_block ?_) | ((with_reducible refine u_cond_t ?_ ?_); (· exact rfl)) | ((with_reducible refine u_cond_f ?_ ?_); (· exact rfl))))
          refine u_loopP (ι := Nat × Option Addr × Nat) [1, 6, 7, 8, 9, 26, 27, 31, 32, 44] rfl (fun p => p.1 ≤ y) (fun p => [(45, .int .i64 (p.1 : Int)), (10, .slice p.2.1 (setL k p.1).length p.2.2)]) (fun p => [.row encI 1 3 (.slice p.2.1 (setL k p.1).length p.2.2) (setL k p.1), .row encOf 1 33 (.slice A1 S.length c1) S, .all (S.map (rowOf encI 1 3)), .tabG encOf (rowOf encI 1 3) gn L, .tabG encOf (rowOf encBl 1 4) gm M, .row encI 1 3 (.slice (some ⟨gh, 0, none⟩) c.hours.length c.hours.length) (handsL c), .blk b1 (cellsCov c A ca B cb C cc), .blk b6 (cellsRo (some ⟨gn, 0, none⟩) c.beds.length c.beds.length (some ⟨gm, 0, none⟩) c.beds.length c.beds.length (some ⟨gh, 0, none⟩) c.hours.length c.hours.length)]) (fun p => y - p.1) (0, some ⟨gl, 0, none⟩, m0) (Nat.zero_le _) (by (first | exact fun _ _ h => lk_nil h | (repeat (first | exact (fun _ _ h => lk_nil h) | (refine lk_sub rfl ?_))))) (by (repeat (first | exact Out.nil _ | (refine Out.cons (by (repeat (first | exact Take.here _ _ | apply Take.there))) ?_)))) ?_
          rintro ⟨j, A2, c2⟩ hj
          simp only at hj
          simp only [zipR, cellsCov, cellsRo, List.cons_append, List.nil_append]
          have hsl := setL_len k j
          by_cases hjl : j < y
          · have hle : k >>> j ≤ k := Nat.shiftRight_le k j
            have hb1 := bit_one (m := k) (h := j)
            cases hbit : k.testBit j with
            | true =>
              have h9 : (k >>> j) % 2 = 1 := by rw [hbit] at hb1; exact of_decide_eq_true hb1.symm
              have e1 := setL_yes hbit
              (repeat' (first | ((with_reducible refine isOps ?_); first | refine u_move rfl rfl rfl rfl rfl ?_ | refine u_assign rfl rfl rfl rfl rfl ?_ | (refine u_cmp rfl rfl rfl rfl rfl rfl rfl (fun h => ?_) (fun h => ?_) <;> (dsimp only [cmpP] at h; (try (exfalso; omega)))) | refine u_val rfl rfl rfl (e_shr rfl rfl rfl (by omega)) ?_ | refine u_val rfl rfl rfl (e_and1 rfl rfl rfl (by omega)) ?_ | (refine u_append (enc := encI) [_] rfl rfl rfl rfl rfl (by (repeat (first | exact Take.here _ _ | apply Take.there))) rfl rfl (src_one (by exact rfl)) (by refine ⟨?_, by decide⟩; (try simp only [List.length_append, List.length_cons, List.length_nil]); omega) (fun A' c' => ?_)) | refine u_add1 rfl rfl rfl rfl rfl rfl (by omega) ?_ | (refine x_buildSlice rfl rfl rfl rfl rfl ?_; refine ⟨rfl, _, rfl, fun b => ?_⟩)) | (with_reducible first | refine u_seq ?_ | refine u_region ?_ | refine u_nil ?_ | refine u_then_n ?_ | refine u_skip ?_ | refine u_block ?_ | refine u_in_n ?_) | ((with_reducible refine u_cond_t ?_ ?_); (· exact rfl))))
              refine u_again (ι := Nat × Option Addr × Nat) (j + 1, A', c') (by simp only; omega) (by simp only; omega) (by simp only [e1]; (first | exact fun _ _ h => lk_nil h | (repeat (first | exact (fun _ _ h => lk_nil h) | (refine lk_sub rfl ?_))))) ?_
              simp only [e1]
              (repeat (first | exact Out.nil _ | (refine Out.cons (by (repeat (first | exact Take.here _ _ | apply Take.there))) ?_)))
            | false =>
              have h9 : (k >>> j) % 2 = 0 := by
                rw [hbit] at hb1
                exact (Nat.mod_two_eq_zero_or_one (k >>> j)).resolve_right (of_decide_eq_false hb1.symm)
              have e1 := setL_no hbit
              (repeat' (first | ((with_reducible refine isOps ?_); first | refine u_move rfl rfl rfl rfl rfl ?_ | refine u_assign rfl rfl rfl rfl rfl ?_ | (refine u_cmp rfl rfl rfl rfl rfl rfl rfl (fun h => ?_) (fun h => ?_) <;> (dsimp only [cmpP] at h; (try (exfalso; omega)))) | refine u_val rfl rfl rfl (e_shr rfl rfl rfl (by omega)) ?_ | refine u_val rfl rfl rfl (e_and1 rfl rfl rfl (by omega)) ?_ | refine u_add1 rfl rfl rfl rfl rfl rfl (by omega) ?_) | (with_reducible first | refine u_seq ?_ | refine u_region ?_ | refine u_nil ?_ | refine u_then_n ?_ | refine u_skip ?_ | refine u_block ?_ | refine u_in_n ?_) | ((with_reducible refine u_cond_t ?_ ?_); (· exact rfl)) | ((with_reducible refine u_cond_f ?_ ?_); (· exact rfl))))
              refine u_again (ι := Nat × Option Addr × Nat) (j + 1, A2, c2) (by simp only; omega) (by simp only; omega) (by simp only [e1]; (first | exact fun _ _ h => lk_nil h | (repeat (first | exact (fun _ _ h => lk_nil h) | (refine lk_sub rfl ?_))))) ?_
              simp only [e1]
              (repeat (first | exact Out.nil _ | (refine Out.cons (by (repeat (first | exact Take.here _ _ | apply Take.there))) ?_)))
          · obtain rfl : j = y := by omega
            generalize hSL : setL k j = sl at *
            (repeat' (first | ((with_reducible refine isOps ?_); first | refine u_move rfl rfl rfl rfl rfl ?_ | refine u_assign rfl rfl rfl rfl rfl ?_ | (refine u_cmp rfl rfl rfl rfl rfl rfl rfl (fun h => ?_) (fun h => ?_) <;> (dsimp only [cmpP] at h; (try (exfalso; omega)))) | (refine u_append (enc := encOf) [(⟨A2, sl, c2⟩ : SlOf Int)] rfl rfl rfl rfl rfl (by (repeat (first | exact Take.here _ _ | apply Take.there))) rfl rfl (src_one (by exact rfl)) (by refine ⟨?_, by decide⟩; (try simp only [List.length_append, List.length_cons, List.length_nil]); omega) (fun A' c' => ?_)) | refine u_add1 rfl rfl rfl rfl rfl rfl (by omega) ?_ | (refine x_buildSlice rfl rfl rfl rfl rfl ?_; refine ⟨rfl, _, rfl, fun b => ?_⟩)) | (with_reducible first | refine u_seq ?_ | refine u_region ?_ | refine u_nil ?_ | refine u_then_n ?_ | refine u_exit ?_ | refine u_in_n ?_ | refine u_in_same ?_ | refine u_then_e ?_) | ((with_reducible refine u_cond_f ?_ ?_); (· exact rfl))))
            refine u_allSnoc (f := rowOf encI 1 3) (L := S) (s := ⟨A2, sl, c2⟩) (by (repeat (first | exact Take.here _ _ | apply Take.there))) (by (repeat (first | exact Take.here _ _ | apply Take.there))) ?_
            refine u_again (ι := Nat × Option Addr × Nat × List (SlOf Int)) (k + 1, A', c', S ++ [⟨A2, sl, c2⟩]) (by
              refine ⟨by simp only; omega, ?_⟩
              simp only
              rw [setsX_yes hz, List.map_append, hS, hSL]
              rfl) (by simp only; omega) (by (first | exact fun _ _ h => lk_nil h | (repeat (first | exact (fun _ _ h => lk_nil h) | (refine lk_sub rfl ?_))))) (by (repeat (first | exact Out.nil _ | (refine Out.cons (by (repeat (first | exact Take.here _ _ | apply Take.there))) ?_))))
      · obtain rfl : k = N := by omega
        by_cases hpos : 0 < S.length
        · have hmn : minX (setsX c y (2 ^ y)) = some (minS S).xs := by rw [hP, ← hS]; exact minS_xs hpos
          have hF2 : shortF c c.hours.length 0 = ((y : Int), (minS S).xs, 0) := by
            rw [hF, show c.hours.length - y = (c.hours.length - y - 1) + 1 by omega]; exact shortF_some hmn
          rw [hF2]
          have hfi := fun W aT => first_any S A1 c1 W aT (by omega) (fun s hs => by have := hSr s hs; omega)
          rw [decide_eq_true hpos] at hfi
          (repeat' (first | ((with_reducible refine isOps ?_); first | refine u_move rfl rfl rfl rfl rfl ?_ | refine u_assign rfl rfl rfl rfl rfl ?_ | (refine u_cmp rfl rfl rfl rfl rfl rfl rfl (fun h => ?_) (fun h => ?_) <;> (dsimp only [cmpP] at h; (try (exfalso; omega)))) | refine u_gives rfl rfl rfl rfl rfl rfl (fun _ _ q => hfi _ (tab_rows q.own (by (repeat (first | exact Take.here _ _ | apply Take.there))) (by (repeat (first | exact Take.here _ _ | apply Take.there))))) ?_ | refine u_extract rfl rfl rfl rfl rfl rfl ?_) | (with_reducible first | refine u_seq ?_ | refine u_region ?_ | refine u_nil ?_ | refine u_then_n ?_ | refine u_ret ?_ | refine u_then_r ?_ | refine u_exit ?_ | refine u_in_r ?_ | refine u_in_same ?_ | refine u_then_e ?_) | ((with_reducible refine u_cond_t ?_ ?_); (· exact rfl)) | ((with_reducible refine u_cond_f ?_ ?_); (· exact rfl))))
          exact u_done (by (exact ResL.cons (by exact Res1.tmp rfl) (ResL.cons (by exact Res1.tmp rfl) (ResL.cons (by exact Res1.tmp rfl) ResL.nil)))) ((minS S).A, (minS S).c) trivial rfl (fun _ h => ((own_allPick (f := rowOf encI 1 3) (minS_in hpos) (by (repeat (first | exact Take.here _ _ | apply Take.there))) h).row_sl (xs := (minS S).xs) (by (repeat (first | exact Take.here _ _ | apply Take.there)))).sub (by (repeat (first | exact Out.nil _ | (refine Out.cons (by (repeat (first | exact Take.here _ _ | apply Take.there))) ?_)))))
        · obtain rfl : S = [] := List.eq_nil_of_length_eq_zero (by omega)
          have hmn : minX (setsX c y (2 ^ y)) = none := by rw [hP, ← hS]; rfl
          have hF2 : shortF c (c.hours.length - y) y = shortF c (c.hours.length - (y + 1)) (y + 1) := by
            rw [show c.hours.length - y = (c.hours.length - (y + 1)) + 1 by omega]; exact shortF_none hmn
          have hfi := fun W aT => first_any [] A1 c1 W aT (by simp) (fun s hs => by cases hs)
          rw [show minS [] = nilOf from rfl] at hfi
          (repeat' (first | ((with_reducible refine isOps ?_); first | refine u_move rfl rfl rfl rfl rfl ?_ | refine u_assign rfl rfl rfl rfl rfl ?_ | (refine u_cmp rfl rfl rfl rfl rfl rfl rfl (fun h => ?_) (fun h => ?_) <;> (dsimp only [cmpP] at h; (try (exfalso; omega)))) | refine u_gives rfl rfl rfl rfl rfl rfl (fun _ _ q => hfi _ (tab_rows (L := []) q.own (by (repeat (first | exact Take.here _ _ | apply Take.there))) (by (repeat (first | exact Take.here _ _ | apply Take.there))))) ?_ | refine u_extract rfl rfl rfl rfl rfl rfl ?_ | refine u_add1 rfl rfl rfl rfl rfl rfl (by omega) ?_) | (with_reducible first | refine u_seq ?_ | refine u_region ?_ | refine u_nil ?_ | refine u_then_n ?_ | refine u_skip ?_ | refine u_exit ?_ | refine u_in_n ?_ | refine u_in_same ?_ | refine u_then_e ?_) | ((with_reducible refine u_cond_f ?_ ?_); (· exact rfl))))
          exact u_again (ι := Nat) (y + 1) (by exact ⟨by omega, by rw [hF, hF2]⟩) (by omega) (by (first | exact fun _ _ h => lk_nil h | (repeat (first | exact (fun _ _ h => lk_nil h) | (refine lk_sub rfl ?_))))) (by (repeat (first | exact Out.nil _ | (refine Out.cons (by (repeat (first | exact Take.here _ _ | apply Take.there))) ?_))))
    · obtain rfl : y = c.hours.length := by omega
      have hF2 : shortF c c.hours.length 0 = (0, [], 6) := by rw [hF, Nat.sub_self]; rfl
      rw [hF2]
      (repeat' (first | ((with_reducible refine isOps ?_); first | refine u_assign rfl rfl rfl rfl rfl ?_ | (refine u_cmp rfl rfl rfl rfl rfl rfl rfl (fun h => ?_) (fun h => ?_) <;> (dsimp only [cmpP] at h; (try (exfalso; omega))))) | (with_reducible first | refine u_seq ?_ | refine u_region ?_ | refine u_nil ?_ | refine u_then_n ?_ | refine u_ret ?_ | refine u_exit ?_ | refine u_in_same ?_ | refine u_then_e ?_) | ((with_reducible refine u_cond_f ?_ ?_); (· exact rfl))))
      exact u_done (by (exact ResL.cons (by exact Res1.tmp rfl) (ResL.cons (by exact Res1.tmp rfl) (ResL.cons (by exact Res1.tmp rfl) ResL.nil)))) (none, 0) trivial rfl (fun _ h => sl_nil h)
  · have h1 := fun W (hb : Below w.heap.size w W) => iopen_no c A ca B cb C cc W (h.below hb) hs h0
    have hX : shortX c = (0, [], errI c) := by unfold shortX; rw [if_neg h0]
    rw [hX]
    unfold vCov at h1 ⊢
    generalize errI c = e at *
    unfold cellsCov at h1 ⊢
    (refine ret_enter (n := 72) Tryd.func12 rfl rfl rfl ?_)
    (repeat' (first | ((with_reducible refine isOps ?_); first | refine u_move rfl rfl rfl rfl rfl ?_ | refine u_assign rfl rfl rfl rfl rfl ?_ | (refine x_load rfl rfl rfl rfl rfl ?_; refine ⟨_, rfl, ?_⟩) | (refine u_cmp rfl rfl rfl rfl rfl rfl rfl (fun h => ?_) (fun h => ?_) <;> (dsimp only [cmpP] at h; (try (exfalso; omega)))) | refine u_gives rfl rfl rfl rfl rfl rfl (fun _ _ q => h1 _ q.below) ?_ | refine u_extract rfl rfl rfl rfl rfl rfl ?_ | (refine u_box rfl rfl rfl rfl rfl rfl (fun b => ?_))) | (with_reducible first | refine u_seq ?_ | refine u_region ?_ | refine u_nil ?_ | refine u_then_n ?_ | refine u_ret ?_ | refine u_then_r ?_) | ((with_reducible refine u_cond_t ?_ ?_); (· exact rfl))))
    exact u_done (by (exact ResL.cons (by exact Res1.tmp rfl) (ResL.cons (by exact Res1.tmp rfl) (ResL.cons (by exact Res1.tmp rfl) ResL.nil)))) (none, 0) trivial rfl (fun _ h => sl_nil h)
end Go.Proofs.YtdigopgncfhiaaaDoor
/- Ice: which hours are short, by the reference. -/
namespace Go.Proofs.YtdigopgncfhiaaaDoor
open Go.RowKit
set_option linter.unusedSimpArgs false
set_option linter.unusedVariables false
set_option maxRecDepth 20000
/-- rows of which k are cut -/
def CutOk (L F : List (SlOf Int)) (q k : Nat) : Prop := F.length = L.length ∧ ∀ (i : Nat) (s : SlOf Int), i < k → L[i]? = some s → ∃ f : SlOf Int, F[i]? = some f ∧ f.xs = s.xs.take q ∧ ∀ W, SlAt encI 1 W s.A s.xs → SlAt encI 1 W f.A f.xs
theorem CutOk.zero {L : List (SlOf Int)} {q : Nat} : CutOk L (List.replicate L.length nilOf) q 0 := ⟨by simp, fun i s h => absurd h (by omega)⟩
theorem CutOk.set {L F : List (SlOf Int)} {q k : Nat} {s : SlOf Int} {A' : Option Addr} (h : CutOk L F q k) (hs : L[k]? = some s) (hA : ∀ W, SlAt encI 1 W s.A s.xs → SlAt encI 1 W A' (s.xs.take q)) : CutOk L (F.set k ⟨A', s.xs.take q, s.c⟩) q (k + 1) := by
  refine ⟨by rw [List.length_set]; exact h.1, fun i z hi hz => ?_⟩
  have hk := (List.getElem?_eq_some_iff.1 hs).1
  by_cases e : i = k
  · subst e
    rw [hs] at hz; cases hz
    exact ⟨_, List.getElem?_set_self (by rw [h.1]; exact hk), rfl, hA⟩
  · rw [List.getElem?_set_ne (fun h => e h.symm)]
    exact h.2 i z (by omega) hz
theorem CutOk.at_ {L F : List (SlOf Int)} {q i : Nat} {f : SlOf Int} (h : CutOk L F q L.length) (hf : F[i]? = some f) : ∃ s, L[i]? = some s ∧ f.xs = s.xs.take q ∧ ∀ W, SlAt encI 1 W s.A s.xs → SlAt encI 1 W f.A f.xs := by
  have hi : i < L.length := by rw [← h.1]; exact (List.getElem?_eq_some_iff.1 hf).1
  obtain ⟨g, hg, h2⟩ := h.2 i L[i] hi (List.getElem?_eq_getElem hi)
  rw [hf] at hg; cases hg
  exact ⟨L[i], List.getElem?_eq_getElem hi, h2⟩
theorem CutOk.xs {L F : List (SlOf Int)} {q : Nat} (h : CutOk L F q L.length) : F.map (·.xs) = (L.map (·.xs)).map fun r => r.take q := by
  refine List.ext_getElem? fun i => ?_
  rw [List.getElem?_map, List.getElem?_map, List.getElem?_map]
  cases hf : F[i]? with
  | none =>
    have : L[i]? = none := List.getElem?_eq_none (by rw [← h.1]; exact List.getElem?_eq_none_iff.1 hf)
    rw [this]; rfl
  | some f =>
    obtain ⟨s, hs, e, _⟩ := h.at_ hf
    rw [hs]; simp [e]
theorem CutOk.tab {L F : List (SlOf Int)} {q : Nat} {A P : Option Addr} {W : World} (h : CutOk L F q L.length) (hp : SlAt encOf 1 W P F) (hT : TabAt encI 1 W A L) : TabAt encI 1 W P F :=
  ⟨hp, fun f hf => by
    obtain ⟨i, hi⟩ := List.getElem?_of_mem hf
    obtain ⟨s, hs, _, e⟩ := h.at_ hi
    exact e W (hT.rows s (List.mem_of_getElem? hs))⟩
theorem RowsOk.cut {L F : List (SlOf Int)} {M : List (SlOf Bool)} {hs : List Int} {q : Nat} (h : RowsOk L M hs) (hc : CutOk L F q L.length) : RowsOk F M hs := by
  have hm : ∀ f ∈ F, ∃ s ∈ L, f.xs = s.xs.take q := fun f hf => by
    obtain ⟨i, hi⟩ := List.getElem?_of_mem hf
    obtain ⟨s, hs, e, _⟩ := hc.at_ hi
    exact ⟨s, List.mem_of_getElem? hs, e⟩
  refine ⟨by rw [hc.1]; exact h.len, by rw [hc.1]; exact h.len2, fun i f t hf ht => ?_, fun f hf => ?_, fun f hf x hx => ?_, h.hlen, h.hbig⟩
  · obtain ⟨s, hs, e, _⟩ := hc.at_ hf
    have := h.row i s t hs ht
    rw [e, List.length_take]; omega
  · obtain ⟨s, hs, e⟩ := hm f hf
    have := h.rlen s hs
    rw [e, List.length_take]; omega
  · obtain ⟨s, hs, e⟩ := hm f hf
    rw [e] at hx
    exact h.big s hs x (List.mem_of_mem_take hx)
set_option maxHeartbeats 8000000 in
theorem rShort_any (c : Cov) (A : Option Addr) (ca : Nat) (B : Option Addr) (cb : Nat) (C : Option Addr) (cc : Nat) (w : World) (h : CovAt w c A B C) (hs : Small c) :
    NewSl encI 1 (shortX c).2.1 (fun v => .tuple #[.int .i64 (shortX c).1, v, .int .i64 (shortX c).2.2]) Tryd.prog 13 [vCov c A ca B cb C cc] w := by
  have h4 := hs.b; have h5 := hs.h
  refine Ret.newsl ?_
  have h1 := fun W (hb : Below w.heap.size w W) => rcheck2_any c A ca B cb C cc W (h.below hb) hs
  by_cases h0 : errI c = 0
  · have hf := fine_of h0
    have hh1 := hf.hours
    rw [inB_iff] at hh1
    rw [h0] at h1
    have h2 := fun W (hb : Below w.heap.size w W) => rneeds_any c A ca B cb C cc W (h.below hb) hs hf
    have h3 := fun W (hb : Below w.heap.size w W) => rfree_any c A ca B cb C cc W (h.below hb) hs hf
    have ok0 := startP_ok hf hs (crew_ok hf)
    have hX : shortX c = shortF c c.hours.length 0 := by unfold shortX; rw [if_pos h0]
    rw [hX]
    have hhl : (handsL c).length = c.hours.length := by simp [handsL]
    unfold vCov at h1 h2 h3 ⊢
    unfold cellsCov at h1 h2 h3 ⊢
    (refine ret_enter (n := 80) Tryd.func13 rfl rfl rfl ?_)
    (repeat' (first | ((with_reducible refine isOps ?_); first | refine u_move rfl rfl rfl rfl rfl ?_ | refine u_assign rfl rfl rfl rfl rfl ?_ | (refine x_load rfl rfl rfl rfl rfl ?_; refine ⟨_, rfl, ?_⟩) | (refine u_cmp rfl rfl rfl rfl rfl rfl rfl (fun h => ?_) (fun h => ?_) <;> (dsimp only [cmpP] at h; (try (exfalso; omega)))) | refine u_gives rfl rfl rfl rfl rfl rfl (fun _ _ q => h1 _ q.below) ?_ | (refine u_call rfl rfl rfl rfl rfl rfl (fun _ _ q => h2 _ q.below) ?_; rintro ⟨gn, L⟩ hL; dsimp only [List.cons_append, List.nil_append]) | (refine u_call rfl rfl rfl rfl rfl rfl (fun _ _ q => h3 _ q.below) ?_; rintro ⟨⟨gm, M⟩, gh⟩ hM; dsimp only [List.cons_append, List.nil_append]) | refine u_extract rfl rfl rfl rfl rfl rfl ?_ | (refine u_box rfl rfl rfl rfl rfl rfl (fun b => ?_))) | (with_reducible first | refine u_seq ?_ | refine u_region ?_ | refine u_nil ?_ | refine u_then_n ?_ | refine u_skip ?_ | refine u_block ?_) | ((with_reducible refine u_cond_f ?_ ?_); (· exact rfl))))
    simp only at hL hM
    have hro : RowsOk L M (handsL c) := rowsOk_of ok0 hL hM (by omega) (by omega)
    have hLl : L.length = c.beds.length := by have := congrArg List.length hL; rw [needsL_len] at this; simpa using this
    have hMl : M.length = c.beds.length := by have := congrArg List.length hM; simpa [mayL] using this
    have hLr : ∀ s ∈ L, s.xs.length = c.hours.length := fun s hs => needsL_row _ (by rw [← hL]; exact List.mem_map_of_mem hs)
    obtain ⟨b1, hb1⟩ : ∃ b1, b1 = b := ⟨_, rfl⟩
    subst hb1
    refine u_tabCaps (enc := encI) (k := 1) (e := 3) (g := gn) (L := L) (by (repeat (first | exact Take.here _ _ | apply Take.there))) fun hcap => ?_
    refine u_loopP (ι := Nat) [1, 6, 7, 8] rfl (fun y => y ≤ c.hours.length ∧ shortF c c.hours.length 0 = shortF c (c.hours.length - y) y) (fun y => [(9, .int .i64 (y : Int))]) (fun y => [.tabG encOf (rowOf encI 1 3) gn L, .tabG encOf (rowOf encBl 1 4) gm M, .row encI 1 3 (.slice (some ⟨gh, 0, none⟩) c.hours.length c.hours.length) (handsL c), .blk b1 (cellsCov c A ca B cb C cc)]) (fun y => c.hours.length - y) 0 ⟨Nat.zero_le _, rfl⟩ (by (first | exact fun _ _ h => lk_nil h | (repeat (first | exact (fun _ _ h => lk_nil h) | (refine lk_sub rfl ?_))))) (by (repeat (first | exact Out.nil _ | (refine Out.cons (by (repeat (first | exact Take.here _ _ | apply Take.there))) ?_)))) ?_
    rintro y ⟨hy, hF⟩
    simp only [zipR, cellsCov, List.cons_append, List.nil_append]
    by_cases hyl : y < c.hours.length
    · have hp : 2 ^ y ≤ 2 ^ 12 := Nat.pow_le_pow_right (by omega) (by omega)
      (repeat' (first | ((with_reducible refine isOps ?_); first | refine u_move rfl rfl rfl rfl rfl ?_ | refine u_assign rfl rfl rfl rfl rfl ?_ | (refine x_load rfl rfl rfl rfl rfl ?_; refine ⟨_, rfl, ?_⟩) | refine u_field rfl rfl rfl rfl rfl ?_ | (refine u_cmp rfl rfl rfl rfl rfl rfl rfl (fun h => ?_) (fun h => ?_) <;> (dsimp only [cmpP] at h; (try (exfalso; omega)))) | refine u_makeC rfl rfl rfl rfl rfl rfl rfl rfl rfl rfl rfl (by omega) (fun gF => ?_) | refine u_len rfl rfl rfl rfl rfl ?_) | (with_reducible first | refine u_seq ?_ | refine u_region ?_ | refine u_nil ?_ | refine u_then_n ?_ | refine u_skip ?_ | refine u_block ?_) | ((with_reducible refine u_cond_t ?_ ?_); (· exact rfl))))
      refine u_recast (e' := .arr encOf 1 gF (List.replicate L.length (nilOf : SlOf Int))) (Take.here _ _) (fun W hp => ?_) (fun b hb => hb) ?_
      · refine ⟨[], ?_⟩
        have e : (List.replicate L.length (nilOf : SlOf Int)).flatMap encOf ++ [] = List.replicate L.length (.slice none 0 0) := by
          rw [List.append_nil]
          induction L.length with
          | zero => rfl
          | succ m ih => rw [List.replicate_succ, List.flatMap_cons, ih]; rfl
        rw [e]; exact hp
      refine u_loopP (ι := Nat × List (SlOf Int)) [1, 6, 7, 8, 9, 10] rfl (fun p => p.1 ≤ L.length ∧ CutOk L p.2 (y + 1) p.1) (fun p => [(11, .int .i64 (p.1 : Int))]) (fun p => [.arr encOf 1 gF p.2, .tabG encOf (rowOf encI 1 3) gn L, .tabG encOf (rowOf encBl 1 4) gm M, .row encI 1 3 (.slice (some ⟨gh, 0, none⟩) c.hours.length c.hours.length) (handsL c), .blk b1 (cellsCov c A ca B cb C cc)]) (fun p => L.length - p.1) (0, List.replicate L.length nilOf) ⟨Nat.zero_le _, CutOk.zero⟩ (by (first | exact fun _ _ h => lk_nil h | (repeat (first | exact (fun _ _ h => lk_nil h) | (refine lk_sub rfl ?_))))) (by (repeat (first | exact Out.nil _ | (refine Out.cons (by (repeat (first | exact Take.here _ _ | apply Take.there))) ?_)))) ?_
      rintro ⟨i, F⟩ ⟨hi, hcut⟩
      simp only at hi hcut
      simp only [zipR, cellsCov, List.cons_append, List.nil_append]
      by_cases hil : i < L.length
      · obtain ⟨s, hs1⟩ : ∃ s, L[i]? = some s := ⟨_, List.getElem?_eq_getElem hil⟩
        obtain ⟨f, hf1⟩ : ∃ s, F[i]? = some s := ⟨_, List.getElem?_eq_getElem (by rw [hcut.1]; exact hil)⟩
        have : GetI L i s := ⟨hs1⟩
        have : GetI F i f := ⟨hf1⟩
        have hsc := hcap s (List.mem_of_getElem? hs1)
        have hsl := hLr s (List.mem_of_getElem? hs1)
        have hset := fun A' => CutOk.set (A' := A') hcut hs1
        obtain ⟨sA, sx, sc⟩ := s
        simp only at hsc hsl hset
        have htl : (sx.take (y + 1)).length = y + 1 := by rw [List.length_take]; omega
        (repeat' (first | ((with_reducible refine isOps ?_); first | refine u_move rfl rfl rfl rfl rfl ?_ | refine u_assign rfl rfl rfl rfl rfl ?_ | (refine x_load rfl rfl rfl rfl rfl ?_; refine ⟨_, rfl, ?_⟩) | (refine u_cmp rfl rfl rfl rfl rfl rfl rfl (fun h => ?_) (fun h => ?_) <;> (dsimp only [cmpP] at h; (try (exfalso; omega)))) | (refine u_slice 0 (y + 1) rfl rfl rfl rfl rfl rfl rfl (by exact rfl) (by exact rfl) (by omega) (by dsimp only; omega) (fun A' hA1 hA2 => ?_)) | refine u_storeA (enc := encOf) (k := 1) (i := i) (j := 0) (z := f) ⟨A', sx.take (y + 1), sc⟩ rfl rfl rfl rfl rfl (by simp [encOf, put1, Value.cells, htl]) rfl rfl (by decide) ?_ | refine u_add1 rfl rfl rfl rfl rfl rfl (by omega) ?_ | refine u_index rfl rfl rfl rfl rfl rfl rfl (by omega) ?_ | refine u_len rfl rfl rfl rfl rfl ?_) | (with_reducible first | refine u_seq ?_ | refine u_region ?_ | refine u_nil ?_ | refine u_then_n ?_ | refine u_skip ?_ | refine u_block ?_ | refine u_in_n ?_) | ((with_reducible refine u_cond_t ?_ ?_); (· exact rfl))))
        exact u_again (ι := Nat × List (SlOf Int)) (i + 1, F.set i ⟨A', sx.take (y + 1), sc⟩) (by exact ⟨by simp only; omega, hset A' (fun W hW => by simpa using hA1 Int encI sx W hW)⟩) (by simp only; omega) (by (first | exact fun _ _ h => lk_nil h | (repeat (first | exact (fun _ _ h => lk_nil h) | (refine lk_sub rfl ?_))))) (by (repeat (first | exact Out.nil _ | (refine Out.cons (by (repeat (first | exact Take.here _ _ | apply Take.there))) ?_))))
      · obtain rfl : i = L.length := by omega
        have hroF := hro.cut hcut
        have hsh := fun W (a1 : TabAt encI 1 W (some ⟨gF, 0, none⟩) F) (a2 : TabAt encBl 1 W (some ⟨gm, 0, none⟩) M) (a3 : SlAt encI 1 W (some ⟨gh, 0, none⟩) (handsL c)) m (hm : m < 2 ^ y) => rshort_any F (some ⟨gF, 0, none⟩) L.length M (some ⟨gm, 0, none⟩) c.beds.length (handsL c) (some ⟨gh, 0, none⟩) c.hours.length m W a1 a2 a3 hroF (by omega)
        rw [hcut.xs, hL, hM, hcut.1, hMl, hhl] at hsh
        have hsB : ∀ m, m < 2 ^ y → decide (0 < shortR ((needsL c).map fun r => r.take (y + 1)) (mayL c) (handsL c) m) = shortB c y m := fun m hm => by
          rw [shortR_cut (fun r hr => needsL_row r hr) hyl hhl hm]; rfl
        generalize hP : 2 ^ y = N at hp hsh hsB
        (repeat' (first | ((with_reducible refine isOps ?_); first | refine u_move rfl rfl rfl rfl rfl ?_ | refine u_assign rfl rfl rfl rfl rfl ?_ | (refine u_cmp rfl rfl rfl rfl rfl rfl rfl (fun h => ?_) (fun h => ?_) <;> (dsimp only [cmpP] at h; (try (exfalso; omega)))) | refine u_len rfl rfl rfl rfl rfl ?_) | (with_reducible first | refine u_seq ?_ | refine u_region ?_ | refine u_nil ?_ | refine u_then_n ?_ | refine u_block ?_ | refine u_exit ?_ | refine u_in_same ?_ | refine u_then_e ?_) | ((with_reducible refine u_cond_f ?_ ?_); (· exact rfl))))
        refine u_row_nil encI 1 3 ?_
        refine u_loopP (ι := Nat × Bool × Option Addr × Nat × List Int) [1, 6, 7, 8, 9, 10] rfl (fun p => p.1 ≤ N ∧ minX (setsX c y p.1) = (if p.2.1 = true then some p.2.2.2.2 else none) ∧ p.2.2.2.2.length ≤ 12) (fun p => [(14, .int .i64 (p.1 : Int)), (13, .bool p.2.1), (12, .slice p.2.2.1 p.2.2.2.2.length p.2.2.2.1)]) (fun p => [.row encI 1 3 (.slice p.2.2.1 p.2.2.2.2.length p.2.2.2.1) p.2.2.2.2, .arr encOf 1 gF F, .tabG encOf (rowOf encI 1 3) gn L, .tabG encOf (rowOf encBl 1 4) gm M, .row encI 1 3 (.slice (some ⟨gh, 0, none⟩) c.hours.length c.hours.length) (handsL c), .blk b1 (cellsCov c A ca B cb C cc)]) (fun p => N - p.1) (0, false, none, 0, []) ⟨Nat.zero_le _, rfl, by simp⟩ (by (first | exact fun _ _ h => lk_nil h | (repeat (first | exact (fun _ _ h => lk_nil h) | (refine lk_sub rfl ?_))))) (by (repeat (first | exact Out.nil _ | (refine Out.cons (by (repeat (first | exact Take.here _ _ | apply Take.there))) ?_)))) ?_
        rintro ⟨k, fd, A1, c1, best⟩ ⟨hk, hmn, hbl⟩
        simp only at hk hmn hbl
        simp only [zipR, cellsCov, List.cons_append, List.nil_append]
        by_cases hkl : k < N
        · have hm12 : setL k 12 = setL k y := by
            have := setL_stop (m := k) (i := y) (by omega) (12 - y)
            rwa [show y + (12 - y) = 12 by omega] at this
          have hmem := fun W => members_any k W (by show k < 4096; omega)
          rw [hm12] at hmem
          have hsl := setL_len k y
          have hs1 := fun W a1 a2 a3 => hsh W a1 a2 a3 k hkl
          rw [hsB k hkl] at hs1
          cases hz : shortB c y k with
          | false =>
            rw [hz] at hs1
            have e1 := setsX_no hz
            (repeat' (first | ((with_reducible refine isOps ?_); first | refine u_move rfl rfl rfl rfl rfl ?_ | refine u_assign rfl rfl rfl rfl rfl ?_ | refine u_pick rfl rfl rfl rfl rfl rfl ?_ | refine u_not_wanted rfl rfl rfl ?_ | (refine u_cmp rfl rfl rfl rfl rfl rfl rfl (fun h => ?_) (fun h => ?_) <;> (dsimp only [cmpP] at h; (try (exfalso; omega)))) | refine u_val rfl rfl rfl (e_shl1 rfl rfl rfl (by omega)) ?_ | (refine u_call rfl rfl rfl rfl rfl rfl (fun _ _ q => hmem _) ?_; rintro ⟨A2, c2⟩ -; dsimp only [List.cons_append, List.nil_append]) | refine u_gives rfl rfl rfl rfl rfl rfl (fun _ _ q => hs1 _ (hcut.tab (arr_at (q.own.here (.arr encOf 1 gF F) (Take.mem (by (repeat (first | exact Take.here _ _ | apply Take.there)))))) (tab_at q.own (by (repeat (first | exact Take.here _ _ | apply Take.there))))) (tab_at q.own (by (repeat (first | exact Take.here _ _ | apply Take.there)))) (row_at q.own (by (repeat (first | exact Take.here _ _ | apply Take.there))))) ?_ | refine u_add1 rfl rfl rfl rfl rfl rfl (by omega) ?_) | (with_reducible first | refine u_seq ?_ | refine u_region ?_ | refine u_nil ?_ | refine u_then_n ?_ | refine u_skip ?_ | refine u_block ?_ | refine u_in_n ?_) | ((with_reducible refine u_cond_t ?_ ?_); (· exact rfl)) | ((with_reducible refine u_cond_f ?_ ?_); (· exact rfl))))
            exact u_again (ι := Nat × Bool × Option Addr × Nat × List Int) (k + 1, fd, A1, c1, best) (by exact ⟨by simp only; omega, by simp only; rw [e1]; exact hmn, hbl⟩) (by simp only; omega) (by (first | exact fun _ _ h => lk_nil h | (repeat (first | exact (fun _ _ h => lk_nil h) | (refine lk_sub rfl ?_))))) (by (repeat (first | exact Out.nil _ | (refine Out.cons (by (repeat (first | exact Take.here _ _ | apply Take.there))) ?_))))
          | true =>
            rw [hz] at hs1
            have e1 := setsX_yes hz
            have e2 := minX_snoc (setsX c y k) (setL k y)
            cases fd with
            | false =>
              rw [hmn, if_neg (by simp)] at e2
              (repeat' (first | ((with_reducible refine isOps ?_); first | refine u_move rfl rfl rfl rfl rfl ?_ | refine u_assign rfl rfl rfl rfl rfl ?_ | refine u_pick rfl rfl rfl rfl rfl rfl ?_ | refine u_not_wanted rfl rfl rfl ?_ | (refine u_cmp rfl rfl rfl rfl rfl rfl rfl (fun h => ?_) (fun h => ?_) <;> (dsimp only [cmpP] at h; (try (exfalso; omega)))) | refine u_val rfl rfl rfl (e_shl1 rfl rfl rfl (by omega)) ?_ | (refine u_call rfl rfl rfl rfl rfl rfl (fun _ _ q => hmem _) ?_; rintro ⟨A2, c2⟩ -; dsimp only [List.cons_append, List.nil_append]) | refine u_gives rfl rfl rfl rfl rfl rfl (fun _ _ q => hs1 _ (hcut.tab (arr_at (q.own.here (.arr encOf 1 gF F) (Take.mem (by (repeat (first | exact Take.here _ _ | apply Take.there)))))) (tab_at q.own (by (repeat (first | exact Take.here _ _ | apply Take.there))))) (tab_at q.own (by (repeat (first | exact Take.here _ _ | apply Take.there)))) (row_at q.own (by (repeat (first | exact Take.here _ _ | apply Take.there))))) ?_ | refine u_not rfl rfl rfl rfl rfl ?_ | refine u_add1 rfl rfl rfl rfl rfl rfl (by omega) ?_) | (with_reducible first | refine u_seq ?_ | refine u_region ?_ | refine u_nil ?_ | refine u_then_n ?_ | refine u_skip ?_ | refine u_block ?_ | refine u_in_n ?_) | ((with_reducible refine u_cond_t ?_ ?_); (· exact rfl))))
              exact u_again (ι := Nat × Bool × Option Addr × Nat × List Int) (k + 1, true, A2, c2, setL k y) (by exact ⟨by simp only; omega, by simp [e1, e2], by simp only; omega⟩) (by simp only; omega) (by (first | exact fun _ _ h => lk_nil h | (repeat (first | exact (fun _ _ h => lk_nil h) | (refine lk_sub rfl ?_))))) (by (repeat (first | exact Out.nil _ | (refine Out.cons (by (repeat (first | exact Take.here _ _ | apply Take.there))) ?_))))
            | true =>
              rw [hmn, if_pos rfl] at e2
              have hbf := fun A2 c2 W a1 a2 => before_any (setL k y) A2 c2 best A1 c1 W a1 a2 (by omega) (by omega)
              cases hbe : befB (setL k y) best with
              | false =>
                rw [hbe] at hbf
                (repeat' (first | ((with_reducible refine isOps ?_); first | refine u_move rfl rfl rfl rfl rfl ?_ | refine u_assign rfl rfl rfl rfl rfl ?_ | refine u_pick rfl rfl rfl rfl rfl rfl ?_ | (refine u_cmp rfl rfl rfl rfl rfl rfl rfl (fun h => ?_) (fun h => ?_) <;> (dsimp only [cmpP] at h; (try (exfalso; omega)))) | refine u_val rfl rfl rfl (e_shl1 rfl rfl rfl (by omega)) ?_ | (refine u_call rfl rfl rfl rfl rfl rfl (fun _ _ q => hmem _) ?_; rintro ⟨A2, c2⟩ -; dsimp only [List.cons_append, List.nil_append]) | refine u_gives rfl rfl rfl rfl rfl rfl (fun _ _ q => hs1 _ (hcut.tab (arr_at (q.own.here (.arr encOf 1 gF F) (Take.mem (by (repeat (first | exact Take.here _ _ | apply Take.there)))))) (tab_at q.own (by (repeat (first | exact Take.here _ _ | apply Take.there))))) (tab_at q.own (by (repeat (first | exact Take.here _ _ | apply Take.there)))) (row_at q.own (by (repeat (first | exact Take.here _ _ | apply Take.there))))) ?_ | refine u_gives rfl rfl rfl rfl rfl rfl (fun _ _ q => hbf _ _ _ (row_at q.own (by (repeat (first | exact Take.here _ _ | apply Take.there)))) (row_at q.own (by (repeat (first | exact Take.here _ _ | apply Take.there))))) ?_ | refine u_not rfl rfl rfl rfl rfl ?_ | refine u_add1 rfl rfl rfl rfl rfl rfl (by omega) ?_) | (with_reducible first | refine u_seq ?_ | refine u_region ?_ | refine u_nil ?_ | refine u_then_n ?_ | refine u_skip ?_ | refine u_block ?_ | refine u_in_n ?_) | ((with_reducible refine u_cond_t ?_ ?_); (· exact rfl)) | ((with_reducible refine u_cond_f ?_ ?_); (· exact rfl))))
                exact u_again (ι := Nat × Bool × Option Addr × Nat × List Int) (k + 1, true, A1, c1, best) (by exact ⟨by simp only; omega, by simp [e1, e2, lessX, hbe], hbl⟩) (by simp only; omega) (by (first | exact fun _ _ h => lk_nil h | (repeat (first | exact (fun _ _ h => lk_nil h) | (refine lk_sub rfl ?_))))) (by (repeat (first | exact Out.nil _ | (refine Out.cons (by (repeat (first | exact Take.here _ _ | apply Take.there))) ?_))))
              | true =>
                rw [hbe] at hbf
                (repeat' (first | ((with_reducible refine isOps ?_); first | refine u_move rfl rfl rfl rfl rfl ?_ | refine u_assign rfl rfl rfl rfl rfl ?_ | refine u_pick rfl rfl rfl rfl rfl rfl ?_ | (refine u_cmp rfl rfl rfl rfl rfl rfl rfl (fun h => ?_) (fun h => ?_) <;> (dsimp only [cmpP] at h; (try (exfalso; omega)))) | refine u_val rfl rfl rfl (e_shl1 rfl rfl rfl (by omega)) ?_ | (refine u_call rfl rfl rfl rfl rfl rfl (fun _ _ q => hmem _) ?_; rintro ⟨A2, c2⟩ -; dsimp only [List.cons_append, List.nil_append]) | refine u_gives rfl rfl rfl rfl rfl rfl (fun _ _ q => hs1 _ (hcut.tab (arr_at (q.own.here (.arr encOf 1 gF F) (Take.mem (by (repeat (first | exact Take.here _ _ | apply Take.there)))))) (tab_at q.own (by (repeat (first | exact Take.here _ _ | apply Take.there))))) (tab_at q.own (by (repeat (first | exact Take.here _ _ | apply Take.there)))) (row_at q.own (by (repeat (first | exact Take.here _ _ | apply Take.there))))) ?_ | refine u_gives rfl rfl rfl rfl rfl rfl (fun _ _ q => hbf _ _ _ (row_at q.own (by (repeat (first | exact Take.here _ _ | apply Take.there)))) (row_at q.own (by (repeat (first | exact Take.here _ _ | apply Take.there))))) ?_ | refine u_not rfl rfl rfl rfl rfl ?_ | refine u_add1 rfl rfl rfl rfl rfl rfl (by omega) ?_) | (with_reducible first | refine u_seq ?_ | refine u_region ?_ | refine u_nil ?_ | refine u_then_n ?_ | refine u_skip ?_ | refine u_block ?_ | refine u_in_n ?_) | ((with_reducible refine u_cond_t ?_ ?_); (· exact rfl))))
                exact u_again (ι := Nat × Bool × Option Addr × Nat × List Int) (k + 1, true, A2, c2, setL k y) (by exact ⟨by simp only; omega, by simp [e1, e2, lessX, hbe], by simp only; omega⟩) (by simp only; omega) (by (first | exact fun _ _ h => lk_nil h | (repeat (first | exact (fun _ _ h => lk_nil h) | (refine lk_sub rfl ?_))))) (by (repeat (first | exact Out.nil _ | (refine Out.cons (by (repeat (first | exact Take.here _ _ | apply Take.there))) ?_))))
        · obtain rfl : k = N := by omega
          rw [← hP] at hmn
          cases fd with
          | true =>
            rw [if_pos rfl] at hmn
            have hF2 : shortF c c.hours.length 0 = ((y : Int), best, 0) := by
              rw [hF, show c.hours.length - y = (c.hours.length - y - 1) + 1 by omega]; exact shortF_some hmn
            rw [hF2]
            (repeat' (first | ((with_reducible refine isOps ?_); first | refine u_move rfl rfl rfl rfl rfl ?_ | refine u_assign rfl rfl rfl rfl rfl ?_ | (refine u_cmp rfl rfl rfl rfl rfl rfl rfl (fun h => ?_) (fun h => ?_) <;> (dsimp only [cmpP] at h; (try (exfalso; omega)))) | refine u_val rfl rfl rfl (e_shl1 rfl rfl rfl (by omega)) ?_) | (with_reducible first | refine u_seq ?_ | refine u_region ?_ | refine u_nil ?_ | refine u_then_n ?_ | refine u_ret ?_ | refine u_then_r ?_ | refine u_exit ?_ | refine u_in_r ?_ | refine u_in_same ?_ | refine u_then_e ?_) | ((with_reducible refine u_cond_t ?_ ?_); (· exact rfl)) | ((with_reducible refine u_cond_f ?_ ?_); (· exact rfl))))
            exact u_done (by (exact ResL.cons (by exact Res1.tmp rfl) (ResL.cons (by exact Res1.tmp rfl) (ResL.cons (by exact Res1.tmp rfl) ResL.nil)))) (A1, c1) trivial rfl (fun _ h => (h.row_sl (xs := best) (by (repeat (first | exact Take.here _ _ | apply Take.there)))).sub (by (repeat (first | exact Out.nil _ | (refine Out.cons (by (repeat (first | exact Take.here _ _ | apply Take.there))) ?_)))))
          | false =>
            rw [if_neg (by simp)] at hmn
            have hF2 : shortF c (c.hours.length - y) y = shortF c (c.hours.length - (y + 1)) (y + 1) := by
              rw [show c.hours.length - y = (c.hours.length - (y + 1)) + 1 by omega]; exact shortF_none hmn
            (repeat' (first | ((with_reducible refine isOps ?_); first | refine u_move rfl rfl rfl rfl rfl ?_ | refine u_assign rfl rfl rfl rfl rfl ?_ | (refine u_cmp rfl rfl rfl rfl rfl rfl rfl (fun h => ?_) (fun h => ?_) <;> (dsimp only [cmpP] at h; (try (exfalso; omega)))) | refine u_val rfl rfl rfl (e_shl1 rfl rfl rfl (by omega)) ?_ | refine u_add1 rfl rfl rfl rfl rfl rfl (by omega) ?_) | (with_reducible first | refine u_seq ?_ | refine u_region ?_ | refine u_nil ?_ | refine u_then_n ?_ | refine u_skip ?_ | refine u_exit ?_ | refine u_in_n ?_ | refine u_in_same ?_ | refine u_then_e ?_) | ((with_reducible refine u_cond_f ?_ ?_); (· exact rfl))))
            exact u_again (ι := Nat) (y + 1) (by exact ⟨by omega, by rw [hF, hF2]⟩) (by omega) (by (first | exact fun _ _ h => lk_nil h | (repeat (first | exact (fun _ _ h => lk_nil h) | (refine lk_sub rfl ?_))))) (by (repeat (first | exact Out.nil _ | (refine Out.cons (by (repeat (first | exact Take.here _ _ | apply Take.there))) ?_))))
    · obtain rfl : y = c.hours.length := by omega
      have hF2 : shortF c c.hours.length 0 = (0, [], 6) := by rw [hF, Nat.sub_self]; rfl
      rw [hF2]
      (repeat' (first | ((with_reducible refine isOps ?_); first | refine u_move rfl rfl rfl rfl rfl ?_ | refine u_assign rfl rfl rfl rfl rfl ?_ | (refine x_load rfl rfl rfl rfl rfl ?_; refine ⟨_, rfl, ?_⟩) | refine u_field rfl rfl rfl rfl rfl ?_ | (refine u_cmp rfl rfl rfl rfl rfl rfl rfl (fun h => ?_) (fun h => ?_) <;> (dsimp only [cmpP] at h; (try (exfalso; omega)))) | refine u_len rfl rfl rfl rfl rfl ?_) | (with_reducible first | refine u_seq ?_ | refine u_region ?_ | refine u_nil ?_ | refine u_then_n ?_ | refine u_ret ?_ | refine u_exit ?_ | refine u_in_same ?_ | refine u_then_e ?_) | ((with_reducible refine u_cond_f ?_ ?_); (· exact rfl))))
      exact u_done (by (exact ResL.cons (by exact Res1.tmp rfl) (ResL.cons (by exact Res1.tmp rfl) (ResL.cons (by exact Res1.tmp rfl) ResL.nil)))) (none, 0) trivial rfl (fun _ h => sl_nil h)
  · have hX : shortX c = (0, [], errI c) := by unfold shortX; rw [if_neg h0]
    rw [hX]
    unfold vCov at h1 ⊢
    generalize errI c = e at *
    unfold cellsCov at h1 ⊢
    (refine ret_enter (n := 80) Tryd.func13 rfl rfl rfl ?_)
    (repeat' (first | ((with_reducible refine isOps ?_); first | refine u_move rfl rfl rfl rfl rfl ?_ | refine u_assign rfl rfl rfl rfl rfl ?_ | (refine x_load rfl rfl rfl rfl rfl ?_; refine ⟨_, rfl, ?_⟩) | (refine u_cmp rfl rfl rfl rfl rfl rfl rfl (fun h => ?_) (fun h => ?_) <;> (dsimp only [cmpP] at h; (try (exfalso; omega)))) | refine u_gives rfl rfl rfl rfl rfl rfl (fun _ _ q => h1 _ q.below) ?_ | (refine u_box rfl rfl rfl rfl rfl rfl (fun b => ?_))) | (with_reducible first | refine u_seq ?_ | refine u_region ?_ | refine u_nil ?_ | refine u_then_n ?_ | refine u_ret ?_ | refine u_then_r ?_) | ((with_reducible refine u_cond_t ?_ ?_); (· exact rfl))))
    exact u_done (by (exact ResL.cons (by exact Res1.tmp rfl) (ResL.cons (by exact Res1.tmp rfl) (ResL.cons (by exact Res1.tmp rfl) ResL.nil)))) (none, 0) trivial rfl (fun _ h => sl_nil h)
end Go.Proofs.YtdigopgncfhiaaaDoor
/- Ice: plans and hours that are short, in the form in which the laws use them. -/
namespace Go.Proofs.YtdigopgncfhiaaaDoor
open Go.RowKit
set_option linter.unusedSimpArgs false
set_option linter.unusedVariables false
set_option maxRecDepth 20000
theorem Ret.conv {α β : Type} {P : Program} {f : FuncId} {args : List Value} {w : World} {V : α → Value} {E : α → List Ent} {p : α → Prop} {V' : β → Value} {E' : β → List Ent} {p' : β → Prop} (h : Ret P f args w V E p) (hc : ∀ x, p x → ∃ y, p' y ∧ V x = V' y ∧ ∀ w', Own w.heap.size w' (E x) → Own w.heap.size w' (E' y)) : Ret P f args w V' E' p' := by
  refine Ret.of (Calls.mono h.calls fun e w' q => ?_)
  obtain ⟨x, hp, he, hb, hE⟩ := q
  obtain ⟨y, hp', hV, hO⟩ := hc x hp
  exact ⟨y, hp', by rw [he, hV], hb, hO w' hE⟩
def SlOf.sli (s : SlOf Int) : Sli := ⟨s.A, s.xs, s.c⟩
theorem sli_xs (L : List (SlOf Int)) : (L.map SlOf.sli).map Sli.xs = L.map (·.xs) := by rw [List.map_map]; rfl
theorem own_plan {g e base : Nat} {L : List (SlOf Int)} {w : World} {H : List Ent} (h : Own base w (.tabG encOf (rowOf encI 1 e) g L :: H)) : Own base w [.sl encSli 1 (some ⟨g, 0, none⟩) (L.map SlOf.sli), .rows (L.map SlOf.sli)] := by
  have h1 : Own base w ((.arr encOf 1 g L :: L.map (rowOf encI 1 e)) ++ H) := own_all.2 h
  have ht := tab_at h (Take.here _ _)
  have hr : ∀ s ∈ L.map SlOf.sli, ∃ z ∈ L, s = z.sli := fun s hs => by
    obtain ⟨z, hz, rfl⟩ := List.mem_map.1 hs
    exact ⟨z, hz, rfl⟩
  have hrow : ∀ z ∈ L, rowOf encI 1 e z ∈ ((.arr encOf 1 g L :: L.map (rowOf encI 1 e)) ++ H) := fun z hz => by
    simp only [List.cons_append, List.mem_cons, List.mem_append, List.mem_map]
    exact .inr (.inl ⟨z, hz, rfl⟩)
  have hS : ∀ (z : SlOf Int) (b o : Nat), z.A = some ⟨b, o, none⟩ → (rowOf encI 1 e z).S b := fun z b o hA => by
    show (Value.slice z.A z.xs.length z.c).ownBlock = some b
    rw [hA]; rfl
  refine ⟨fun f hf => ?_, fun f hf b hb => ?_, ?_⟩
  · simp only [List.mem_cons, List.not_mem_nil, or_false] at hf
    rcases hf with rfl | rfl
    · intro i x hx
      rw [List.getElem?_map] at hx
      cases hl : L[i]? with
      | none => rw [hl] at hx; cases hx
      | some y =>
        rw [hl] at hx
        simp at hx
        subst hx
        exact ht.p i y hl
    · intro s hs
      obtain ⟨z, hz, rfl⟩ := hr s hs
      exact ht.rows z hz
  · simp only [List.mem_cons, List.not_mem_nil, or_false] at hf
    rcases hf with rfl | rfl
    · obtain ⟨o, ho⟩ := hb
      cases ho
      exact h1.foot (.arr encOf 1 g L) (by simp) g rfl
    · obtain ⟨s, hs, o, ho⟩ := hb
      obtain ⟨z, hz, rfl⟩ := hr s hs
      exact h1.foot _ (hrow z hz) b (hS z b o ho)
  · refine List.Pairwise.cons (fun f hf b hb hb' => ?_) (List.Pairwise.cons (fun f hf => by cases hf) List.Pairwise.nil)
    simp only [List.mem_singleton] at hf
    subst hf
    obtain ⟨o, ho⟩ := hb
    cases ho
    obtain ⟨s, hs, o, ho⟩ := hb'
    obtain ⟨z, hz, rfl⟩ := hr s hs
    have h2 := List.pairwise_cons.1 h1.apart
    exact h2.1 (rowOf encI 1 e z) (List.mem_append.2 (.inl (List.mem_map.2 ⟨z, hz, rfl⟩))) g rfl (hS z g o ho)
theorem own_planNil {base : Nat} {w : World} : Own base w [.sl encSli 1 none [], .rows []] := by
  refine ⟨fun f hf => ?_, fun f hf b hb => ?_, ?_⟩
  · simp only [List.mem_cons, List.not_mem_nil, or_false] at hf
    rcases hf with rfl | rfl
    · intro i x hx; cases hx
    · intro s hs; cases hs
  · simp only [List.mem_cons, List.not_mem_nil, or_false] at hf
    rcases hf with rfl | rfl
    · obtain ⟨o, ho⟩ := hb; cases ho
    · obtain ⟨s, hs, _⟩ := hb; cases hs
  · exact List.Pairwise.cons (fun f hf b hb hb' => by obtain ⟨o, ho⟩ := hb; cases ho) (List.Pairwise.cons (fun f hf => by cases hf) List.Pairwise.nil)
theorem planX_len {c : Cov} (hs : Small c) : (planX c).1.length ≤ 12 ∧ ∀ r ∈ (planX c).1, r.length ≤ 20 := by
  have h4 := hs.b; have h5 := hs.h
  unfold planX
  split
  · rename_i h0
    split
    · have hf := fine_of h0
      have ok := hours_ok (startP_ok hf hs (crew_ok hf)) c.hours.length (Nat.le_refl _)
      refine ⟨by rw [ok.ol]; omega, fun r hr => ?_⟩
      obtain ⟨k, hk, e⟩ := List.getElem_of_mem hr
      have h1 := ok.or_ k
      rw [Flow.getD_lt hk, e] at h1
      split at h1
      · omega
      · split at h1 <;> omega
    · exact ⟨by simp, fun r hr => by cases hr⟩
  · exact ⟨by simp, fun r hr => by cases hr⟩
theorem minX_mem : ∀ {l : List (List Int)} {m : List Int}, minX l = some m → m ∈ l
  | [], m, h => by cases h
  | s :: r, m, h => by
    have key : ∀ (r : List (List Int)) (s : List Int), r.foldl lessX s = s ∨ r.foldl lessX s ∈ r := by
      intro r
      induction r with
      | nil => intro s; exact .inl rfl
      | cons x r ih =>
        intro s
        simp only [List.foldl_cons]
        rcases ih (lessX s x) with h | h
        · rw [h]; unfold lessX; split
          · exact .inr List.mem_cons_self
          · exact .inl rfl
        · exact .inr (List.mem_cons_of_mem _ h)
    cases h
    rcases key r s with h | h
    · rw [h]; exact List.mem_cons_self
    · exact List.mem_cons_of_mem _ h
theorem shortF_len {c : Cov} : ∀ n h, (shortF c n h).2.1.length ≤ h + n
  | 0, h => by simp [shortF]
  | n + 1, h => by
    cases e : minX (setsX c h (2 ^ h)) with
    | none => rw [shortF_none e]; have := shortF_len (c := c) n (h + 1); omega
    | some l =>
      rw [shortF_some e]
      obtain ⟨m, _, e2⟩ := List.mem_map.1 (minX_mem e)
      have := setL_len m h
      simp only
      rw [← e2]; omega
theorem shortX_len {c : Cov} (hs : Small c) : (shortX c).2.1.length ≤ 12 := by
  have := hs.h
  unfold shortX
  split
  · have := shortF_len (c := c) c.hours.length 0; omega
  · simp
theorem drillX_small {c : Cov} {a : Int} {th : Sp} (hs : Small c) : Small (drillX c a th).1 := by
  have hz : Small zeroCov := ⟨fun s hs => (by cases hs), by decide, by decide, by decide⟩
  unfold drillX
  split
  · split
    · unfold drillP
      split
      · split
        · exact hz
        · split
          · exact hz
          · exact ⟨hs.fit, hs.t, by simp only [List.length_set]; exact hs.b, hs.h⟩
      · exact hz
    · exact hz
  · exact hz
theorem planX_err {c : Cov} (h : errI c ≠ 0) : planX c = ([], errI c) := by unfold planX; rw [if_neg h]
theorem planX_cant {c : Cov} (h : errI c = 0) (h2 : canB (needsL c) (mayL c) (handsL c) = false) : planX c = ([], 8) := by unfold planX; rw [if_pos h, h2]; rfl
theorem planX_ok {c : Cov} (h : errI c = 0) (h2 : canB (needsL c) (mayL c) (handsL c) = true) : planX c = ((hoursP c.beds.length c.hours.length (startP c)).out, 0) := by unfold planX; rw [if_pos h, h2]; rfl
theorem iPlan_any (c : Cov) (A : Option Addr) (ca : Nat) (B : Option Addr) (cb : Nat) (C : Option Addr) (cc : Nat) (w : World) (h : CovAt w c A B C) (hs : Small c) (hG : InC w 0 0 limC) :
    Ret Tryd.prog 10 [vCov c A ca B cb C cc] w (fun p : (Option Addr × Nat) × List Sli => .tuple #[.slice p.1.1 p.2.length p.1.2, .int .i64 (planX c).2]) (fun p => [.sl encSli 1 p.1.1 p.2, .rows p.2]) (fun p => p.2.map Sli.xs = (planX c).1) := by
  by_cases h0 : errI c = 0
  · cases hc : canB (needsL c) (mayL c) (handsL c) with
    | true =>
      have hl : (planX c).1.length = c.hours.length := by
        have hf := fine_of h0
        rw [planX_ok h0 hc]
        exact (hours_ok (startP_ok hf hs (crew_ok hf)) c.hours.length (Nat.le_refl _)).ol
      refine (Two.iplan_any c A ca B cb C cc w h hs hG h0 hc).conv fun p hp => ⟨((some ⟨p.1, 0, none⟩, c.hours.length), p.2.map SlOf.sli), by simp only; rw [sli_xs]; exact hp, ?_, fun w' => own_plan⟩
      have : p.2.length = c.hours.length := by have := congrArg List.length hp; rw [hl] at this; simpa using this
      simp only [List.length_map, this]
      rw [planX_ok h0 hc]
    | false =>
      have h1 := iplan_cant c A ca B cb C cc w h hs hG h0 hc
      unfold Gv at h1
      rw [planX_cant h0 hc]
      exact h1.conv fun _ _ => ⟨((none, 0), []), rfl, rfl, fun w' _ => own_planNil⟩
  · have h1 := iplan_err c A ca B cb C cc w h hs h0
    unfold Gv at h1
    rw [planX_err h0]
    exact h1.conv fun _ _ => ⟨((none, 0), []), rfl, rfl, fun w' _ => own_planNil⟩
theorem rPlan_any (c : Cov) (A : Option Addr) (ca : Nat) (B : Option Addr) (cb : Nat) (C : Option Addr) (cc : Nat) (w : World) (h : CovAt w c A B C) (hs : Small c) :
    Ret Tryd.prog 11 [vCov c A ca B cb C cc] w (fun p : (Option Addr × Nat) × List Sli => .tuple #[.slice p.1.1 p.2.length p.1.2, .int .i64 (planX c).2]) (fun p => [.sl encSli 1 p.1.1 p.2, .rows p.2]) (fun p => p.2.map Sli.xs = (planX c).1) := by
  by_cases h0 : errI c = 0
  · cases hc : canB (needsL c) (mayL c) (handsL c) with
    | true =>
      have hl : (planX c).1.length = c.hours.length := by
        have hf := fine_of h0
        rw [planX_ok h0 hc]
        exact (hours_ok (startP_ok hf hs (crew_ok hf)) c.hours.length (Nat.le_refl _)).ol
      refine (rplan_any c A ca B cb C cc w h hs h0 hc).conv fun p hp => ⟨((some ⟨p.1, 0, none⟩, c.hours.length), p.2.map SlOf.sli), by simp only; rw [sli_xs]; exact hp, ?_, fun w' => own_plan⟩
      have : p.2.length = c.hours.length := by have := congrArg List.length hp; rw [hl] at this; simpa using this
      simp only [List.length_map, this]
      rw [planX_ok h0 hc]
    | false =>
      have h1 := rplan_cant c A ca B cb C cc w h hs h0 hc
      unfold Gv at h1
      rw [planX_cant h0 hc]
      exact h1.conv fun _ _ => ⟨((none, 0), []), rfl, rfl, fun w' _ => own_planNil⟩
  · have h1 := rplan_err c A ca B cb C cc w h hs h0
    unfold Gv at h1
    rw [planX_err h0]
    exact h1.conv fun _ _ => ⟨((none, 0), []), rfl, rfl, fun w' _ => own_planNil⟩
end Go.Proofs.YtdigopgncfhiaaaDoor
