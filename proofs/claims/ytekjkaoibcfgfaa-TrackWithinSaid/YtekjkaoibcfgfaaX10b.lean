/- left: the round for falls. -/
import Derived.Test.YtekjkaoibcfgfaaX9
namespace Go.Proofs.Ytekjkaoibcfgfaa
open Go.RowKit
set_option maxRecDepth 20000
set_option linter.unusedSimpArgs false
set_option linter.unusedVariables false

set_option maxHeartbeats 4000000 in
theorem left_k2 (t : List St) (A : Option Addr) (cap : Nat) (kb : KB) (ms : List Me) (m : Nat) (w : World) (ht : SlAt encSt 9 w A t) (hv : valid t = true) (hok : ∀ x ∈ ms, meOk t.length x = true) (hkb : kb.ok ms.length) (hm : w.heap[m]? = some (.map (entsMe kb ms) kb.c)) (b4 b6 b8 g c' : Nat) (c : Code) (hc : Try.f75.body.bind firstLoop = some c) (AG : Act → World → Prop) (Q : Exit → Act → World → Prop)
    (hag : fine2 t ms → U w 164 [] (leftR m b4 b6 b8 t.length 3) (leftH b4 b6 b8 g t.length c' (stg t ms 3)) AG)
    (hret : leftB t ms = false → ∀ a W, Kn w 164 [] [(4, .pointer (some ⟨b4, 0, none⟩)), (5, .bool false)] [.blk b4 [.slice none 0 0]] a W → Q .ret a W) :
    U w 164 [] (leftR m b4 b6 b8 t.length 2) (leftH b4 b6 b8 g t.length c' (stg t ms 2)) (c.wp Try.prog (Exit.then AG Q)) := by
  obtain rfl : _ = c := Option.some.inj ((rfl : Try.f75.body.bind firstLoop = some _).symm.trans hc)
  clear hc
  have ho := valid_okay hv
  have hlen := valid_len hv
  have hmlt : m < w.heap.size := (Array.getElem?_eq_some_iff.1 hm).1
  have hmap : ∀ W, Below w.heap.size w W → W.heap[m]? = some (.map (entsMe kb ms) kb.c) := fun W h => (h.block m hmlt).trans hm
  have bd1 : ∀ s ∈ t, -400000 ≤ s.long.lo ∧ s.long.lo ≤ 400000 := fun s hs => by have := ho s hs; have := this.l0; have := (ho s hs).l1; have := (ho s hs).l2; omega
  have okS1 : okSps (longs t) := fun i => by
    unfold spAt longs
    rw [List.getD_eq_getElem?_getD, List.getElem?_map]
    cases h : t[i]? with
    | none => simp
    | some z =>
      have hz := ho z (List.mem_of_getElem? h)
      have := hz.l0; have := hz.l1; have := hz.l2
      simp only [Option.map_some, Option.getD_some]; omega
  have ef : falls (stage1 t ms) = falls t := by
    unfold falls stage1
    apply List.ext_getElem?
    intro j
    rw [List.getElem?_map, List.getElem?_map, updTo_get]
    cases t[j]? with
    | none => rfl
    | some z => by_cases h : j < t.length <;> simp [h, setLong]
  have bd2 : ∀ s ∈ stage1 t ms, -400000 ≤ s.fall.lo ∧ s.fall.lo ≤ 400000 := fun s hs => by
    have h : s.fall ∈ falls (stage1 t ms) := List.mem_map.2 ⟨s, hs, rfl⟩
    rw [ef] at h
    obtain ⟨z, hz, e⟩ := List.mem_map.1 h
    rw [← e]
    have := (ho z hz).f0; have := (ho z hz).f1; have := (ho z hz).f2; omega
  have okS2 : okSps (falls (stage1 t ms)) := fun i => by
    rw [ef]
    unfold spAt falls
    rw [List.getD_eq_getElem?_getD, List.getElem?_map]
    cases h : t[i]? with
    | none => simp
    | some z =>
      have hz := ho z (List.mem_of_getElem? h)
      have := hz.f0; have := hz.f1; have := hz.f2
      simp only [Option.map_some, Option.getD_some]; omega
  have len2 : (stage1 t ms).length = t.length := stage1_len
  have no2 : ¬ fineK 2 (falls (stage1 t ms)) ms (t.length + 1) → leftB t ms = false := fun h => leftB_no2 h
  have yes2 : fineK 2 (falls (stage1 t ms)) ms (t.length + 1) → fine2 t ms := fun h => h
  have end2 : updTo (setFall (dist 2 (falls (stage1 t ms)) ms (t.length + 1))) (stage1 t ms) t.length = stg t ms (2 + 1) := rfl
  unfold leftR leftH
  rw [show stg t ms 2 = stage1 t ms from rfl]
  clear ef
  generalize stage1 t ms = t2 at *
  · skip
    (repeat' (first | ((with_reducible refine isOps ?_); first | refine u_move rfl rfl rfl rfl rfl ?_ | (refine u_cmp rfl rfl rfl rfl rfl rfl rfl (fun h => ?_) (fun h => ?_) <;> (dsimp only [cmpP] at h; (try (exfalso; omega)))) | (refine u_alloc rfl rfl rfl rfl (fun b => ?_))) | (with_reducible first | refine u_seq ?_ | refine u_region ?_ | refine u_nil ?_ | refine u_then_n ?_ | refine u_skip ?_ | refine u_block ?_) | ((with_reducible refine u_cond_t ?_ ?_); (· exact rfl))))
    rw [zeros_mat]
    obtain ⟨bm, hbm⟩ : ∃ x, x = b := ⟨b, rfl⟩
    subst hbm
    refine u_loop (ι := Nat × Mat) (fun j => j.1 ≤ t.length + 1 ∧ FarTo (t.length + 1) j.1 0 j.2) (fun j => [(1, .map (some m)), (4, .pointer (some ⟨b4, 0, none⟩)), (6, .pointer (some ⟨b6, 0, none⟩)), (7, .int .i64 ((t.length + 1 : Nat) : Int)), (8, .pointer (some ⟨b8, 0, none⟩)), (9, .int .i64 (2 : Int)), (10, .pointer (some ⟨bm, 0, none⟩)), (32, .int .i64 ((t.length + 1 : Nat) : Int)), (33, .int .i64 (j.1 : Int))]) (fun j => [.blk bm (cellsM j.2), .blk b4 [.slice none 0 0], .blk b6 [.slice (some ⟨g, 0, none⟩) t.length c'], .blk b8 [.nilFunc, .func (.func 101) #[] #[], .func (.func 102) #[] #[]], .arr encSt 9 g (t2)]) (fun j => t.length + 1 - j.1) (0, fun _ _ => 0) ⟨Nat.zero_le _, farTo_start _⟩ (by (first | exact fun _ _ h => lk_nil h | (repeat (first | exact (fun _ _ h => lk_nil h) | (refine lk_sub rfl ?_))))) (by (repeat (first | exact Out.nil _ | (refine Out.cons (by (repeat (first | exact Take.here _ _ | apply Take.there))) ?_)))) ?_
    rintro ⟨i, M⟩ ⟨hi, hM⟩
    simp only at hi hM ⊢
    by_cases hlt : i < t.length + 1
    · (repeat' (first | ((with_reducible refine isOps ?_); first | refine u_move rfl rfl rfl rfl rfl ?_ | refine u_assign rfl rfl rfl rfl rfl ?_ | (refine u_cmp rfl rfl rfl rfl rfl rfl rfl (fun h => ?_) (fun h => ?_) <;> (dsimp only [cmpP] at h; (try (exfalso; omega))))) | (with_reducible first | refine u_seq ?_ | refine u_region ?_ | refine u_nil ?_ | refine u_then_n ?_ | refine u_skip ?_ | refine u_block ?_) | ((with_reducible refine u_cond_t ?_ ?_); (· exact rfl))))
      refine u_loop (ι := Nat × Mat) (fun j => j.1 ≤ t.length + 1 ∧ FarTo (t.length + 1) i j.1 j.2) (fun j => [(1, .map (some m)), (4, .pointer (some ⟨b4, 0, none⟩)), (6, .pointer (some ⟨b6, 0, none⟩)), (7, .int .i64 ((t.length + 1 : Nat) : Int)), (8, .pointer (some ⟨b8, 0, none⟩)), (9, .int .i64 (2 : Int)), (10, .pointer (some ⟨bm, 0, none⟩)), (32, .int .i64 ((t.length + 1 : Nat) : Int)), (33, .int .i64 (i : Int)), (11, .int .i64 (i : Int)), (36, .int .i64 ((t.length + 1 : Nat) : Int)), (37, .int .i64 (j.1 : Int))]) (fun j => [.blk bm (cellsM j.2), .blk b4 [.slice none 0 0], .blk b6 [.slice (some ⟨g, 0, none⟩) t.length c'], .blk b8 [.nilFunc, .func (.func 101) #[] #[], .func (.func 102) #[] #[]], .arr encSt 9 g (t2)]) (fun j => t.length + 1 - j.1) (0, M) ⟨Nat.zero_le _, hM⟩ (by (first | exact fun _ _ h => lk_nil h | (repeat (first | exact (fun _ _ h => lk_nil h) | (refine lk_sub rfl ?_))))) (by (repeat (first | exact Out.nil _ | (refine Out.cons (by (repeat (first | exact Take.here _ _ | apply Take.there))) ?_)))) ?_
      clear hM M
      rintro ⟨k, M⟩ ⟨hk, hM⟩
      simp only at hk hM ⊢
      by_cases hlk : k < t.length + 1
      · have m3 : MatI i k := ⟨by omega, by omega⟩
        (repeat' (first | ((with_reducible refine isOps ?_); first | refine u_move rfl rfl rfl rfl rfl ?_ | refine u_assign rfl rfl rfl rfl rfl ?_ | (refine u_cmp rfl rfl rfl rfl rfl rfl rfl (fun h => ?_) (fun h => ?_) <;> (dsimp only [cmpP] at h; (try (exfalso; omega)))) | refine u_storeM rfl rfl rfl rfl rfl ?_ | refine u_add1 rfl rfl rfl rfl rfl rfl (by omega) ?_ | refine u_indexA rfl rfl rfl rfl rfl rfl rfl (by first | decide | omega) ?_) | (with_reducible first | refine u_seq ?_ | refine u_region ?_ | refine u_nil ?_ | refine u_then_n ?_ | refine u_skip ?_ | refine u_block ?_ | refine u_in_n ?_) | ((with_reducible refine u_cond_t ?_ ?_); (· exact rfl)) | ((with_reducible refine u_cond_f ?_ ?_); (· exact rfl))))
        · exact u_again (k + 1, setM M i k far) ⟨by omega, farTo_set hM (by omega)⟩ (by simp only; omega) (by (first | exact fun _ _ h => lk_nil h | (repeat (first | exact (fun _ _ h => lk_nil h) | (refine lk_sub rfl ?_))))) (by (repeat (first | exact Out.nil _ | (refine Out.cons (by (repeat (first | exact Take.here _ _ | apply Take.there))) ?_))))
        · obtain rfl : i = k := by omega
          exact u_again (i + 1, M) ⟨by omega, farTo_keep hM⟩ (by simp only; omega) (by (first | exact fun _ _ h => lk_nil h | (repeat (first | exact (fun _ _ h => lk_nil h) | (refine lk_sub rfl ?_))))) (by (repeat (first | exact Out.nil _ | (refine Out.cons (by (repeat (first | exact Take.here _ _ | apply Take.there))) ?_))))
      · obtain rfl : k = t.length + 1 := by omega
        (repeat' (first | ((with_reducible refine isOps ?_); first | refine u_move rfl rfl rfl rfl rfl ?_ | (refine u_cmp rfl rfl rfl rfl rfl rfl rfl (fun h => ?_) (fun h => ?_) <;> (dsimp only [cmpP] at h; (try (exfalso; omega)))) | refine u_add1 rfl rfl rfl rfl rfl rfl (by omega) ?_) | (with_reducible first | refine u_seq ?_ | refine u_region ?_ | refine u_nil ?_ | refine u_then_n ?_ | refine u_exit ?_ | refine u_in_n ?_ | refine u_in_same ?_ | refine u_then_e ?_) | ((with_reducible refine u_cond_f ?_ ?_); (· exact rfl))))
        exact u_again (i + 1, M) ⟨by omega, farTo_row hM⟩ (by simp only; omega) (by (first | exact fun _ _ h => lk_nil h | (repeat (first | exact (fun _ _ h => lk_nil h) | (refine lk_sub rfl ?_))))) (by (repeat (first | exact Out.nil _ | (refine Out.cons (by (repeat (first | exact Take.here _ _ | apply Take.there))) ?_))))
    obtain rfl : i = t.length + 1 := by omega
    (repeat' (first | ((with_reducible refine isOps ?_); first | refine u_move rfl rfl rfl rfl rfl ?_ | (refine x_load rfl rfl rfl rfl rfl ?_; refine ⟨_, rfl, ?_⟩) | refine u_field rfl rfl rfl rfl rfl ?_ | (refine u_cmp rfl rfl rfl rfl rfl rfl rfl (fun h => ?_) (fun h => ?_) <;> (dsimp only [cmpP] at h; (try (exfalso; omega)))) | refine u_len rfl rfl rfl rfl rfl ?_) | (with_reducible first | refine u_seq ?_ | refine u_region ?_ | refine u_nil ?_ | refine u_then_n ?_ | refine u_block ?_ | refine u_exit ?_ | refine u_in_same ?_ | refine u_then_e ?_) | ((with_reducible refine u_cond_f ?_ ?_); (· exact rfl))))
    refine u_loop (ι := Nat × Mat) (fun j => j.1 ≤ t.length ∧ SpTo (t.length + 1) (falls t2) j.1 j.2) (fun j => [(1, .map (some m)), (4, .pointer (some ⟨b4, 0, none⟩)), (6, .pointer (some ⟨b6, 0, none⟩)), (7, .int .i64 ((t.length + 1 : Nat) : Int)), (8, .pointer (some ⟨b8, 0, none⟩)), (9, .int .i64 (2 : Int)), (10, .pointer (some ⟨bm, 0, none⟩)), (51, .int .i64 (t.length : Int)), (52, .int .i64 (j.1 : Int))]) (fun j => [.blk bm (cellsM j.2), .blk b4 [.slice none 0 0], .blk b6 [.slice (some ⟨g, 0, none⟩) t.length c'], .blk b8 [.nilFunc, .func (.func 101) #[] #[], .func (.func 102) #[] #[]], .arr encSt 9 g (t2)]) (fun j => t.length - j.1) (0, M) ⟨Nat.zero_le _, spTo_start hM⟩ (by (first | exact fun _ _ h => lk_nil h | (repeat (first | exact (fun _ _ h => lk_nil h) | (refine lk_sub rfl ?_))))) (by (repeat (first | exact Out.nil _ | (refine Out.cons (by (repeat (first | exact Take.here _ _ | apply Take.there))) ?_)))) ?_
    clear hM M hi hlt
    rintro ⟨i, M⟩ ⟨hi, hM⟩
    simp only at hi hM ⊢
    by_cases hlt : i < t.length
    · have hz : (t2)[i]? = some ((t2)[i]'(by rw [len2]; exact hlt)) := by simp
      have : GetI (t2) i ((t2)[i]'(by rw [len2]; exact hlt)) := ⟨hz⟩
      have hsp : spAt (falls t2) i = ((t2)[i]'(by rw [len2]; exact hlt)).fall := by
        rw [spAt, List.getD_eq_getElem?_getD, falls, List.getElem?_map, hz]; rfl
      have hbz := bd2 _ (List.getElem_mem (by rw [len2]; exact hlt : i < (t2).length))
      generalize (t2)[i]'(by rw [len2]; exact hlt) = z at *
      have m1 : MatI i (i + 1) := ⟨by omega, by omega⟩
      have m2 : MatI (i + 1) i := ⟨by omega, by omega⟩
      (repeat' (first | ((with_reducible refine isOps ?_); first | refine u_move rfl rfl rfl rfl rfl ?_ | refine u_assign rfl rfl rfl rfl rfl ?_ | (refine u_cmp rfl rfl rfl rfl rfl rfl rfl (fun h => ?_) (fun h => ?_) <;> (dsimp only [cmpP] at h; (try (exfalso; omega))))) | (with_reducible first | refine u_seq ?_ | refine u_region ?_ | refine u_nil ?_ | refine u_then_n ?_ | refine u_skip ?_ | refine u_block ?_) | ((with_reducible refine u_cond_t ?_ ?_); (· exact rfl))))
      (refine u_chain (by kernel_rfl) [[], [true], [true, true], [true, true, true], [false, false, false, false], [true, false, false, false, false], [false, false, false, false, false, false], [true, true, true, false, false, false, false], [true, true, true, true, true, true, true, true], [true, true, true, true, true, true, true, true, true], [true, true, true, true, true, true, true, true, true, true], [false, false, false, false, false, false, false, false, false, false, false], [true, true, true, true, true, true, true, true, true, true, true, true]] (by kernel_rfl) (by kernel_rfl) ?_)
      (repeat' (first | (((with_reducible refine c_go ?_ ?_); (· exact rfl); refine ⟨_, fun G => (by (try simp only [fltT, entsT, List.nil_append, List.cons_append]); rfl), ?_⟩); first | refine c_val _ (fun _ => e_move rfl rfl) (fun _ => rfl) rfl (by first | exact fun _ _ _ => rfl | (intro G G' h; simp (decide := true) only [h])) ?_ | refine c_val _ (fun _ => e_load' rfl rfl (by exact rfl)) (fun _ => rfl) rfl (by first | exact fun _ _ _ => rfl | (intro G G' h; simp (decide := true) only [h])) ?_ | (refine c_isField rfl ?_; refine c_val _ (fun _ => e_field rfl rfl) (fun _ => rfl) rfl (by first | exact fun _ _ _ => rfl | (intro G G' h; simp (decide := true) only [h])) ?_) | refine c_gives _ rfl (fun _ => rfl) rfl (fun _ => rfl) (fun _ => rfl) (fun _ _ _ q => kind2_any _ _ _) (by first | exact fun _ _ _ => rfl | (intro G G' h; simp (decide := true) only [h])) ?_ | refine c_val _ (fun _ => e_index rfl rfl rfl rfl (by omega)) (fun _ => rfl) rfl (by first | exact fun _ _ _ => rfl | (intro G G' h; simp (decide := true) only [h])) ?_ | refine c_val _ (fun _ => e_indexA rfl rfl rfl rfl (by first | decide | omega)) (fun _ => rfl) rfl (by first | exact fun _ _ _ => rfl | (intro G G' h; simp (decide := true) only [h])) ?_ | refine c_val _ (fun _ => e_nilCheck rfl rfl) (fun _ => rfl) rfl (by first | exact fun _ _ _ => rfl | (intro G G' h; simp (decide := true) only [h])) ?_ | refine c_alloc rfl (fun _ => rfl) rfl ?_) | ((with_reducible refine c_tail ?_ ?_); (· exact rfl))))
      (intro G; simp only [regsT, entsT, Pend.at_none, List.nil_append, List.cons_append])
      (repeat' (first | ((with_reducible refine isOps ?_); first | (refine x_store rfl rfl rfl rfl rfl ?_; refine And.intro rfl (And.intro (by first | decide | exact Nat.le_of_ble_eq_true rfl | (simp; omega)) ⟨_, rfl, ?_⟩))) | (with_reducible first | refine u_nil ?_ | refine u_then_n ?_)))
      (refine u_chainS ⟨13, [.blk bm (cellsM M)], [.blk bm (cellsM (setM M i (i + 1) z.fall.hi))]⟩ (H0 := _) (fun _ h => (h.take (by (repeat (first | exact Take.here _ _ | apply Take.there))))) (by kernel_rfl) [[], [false], [true, false], [false, false, false], [true, false, false, false], [false, false, false, false, false], [false, false, false, false, false, false], [true, false, false, false, false, false, false], [false, false, false, false, false, false, false, false], [true, false, false, false, false, false, false, false, false], [true, true, false, false, false, false, false, false, false, false], [false, false, false, false, false, false, false, false, false, false, true], [true, false, false, false, true, true, false, false, false, true, true, true], [true, true, false, false, false, true, true, false, false, false, true, true, true], [false, false, false, false, false, false, false, false, false, true, true, false, false, false], [true, true, true, true, true, true, true, true, true, true, true, true, true, true, true], [true, true, true, true, true, true, true, true, true, true, true, true, true, true, true, true]] (by kernel_rfl) (by kernel_rfl) ?_)
      (repeat' (first | (((with_reducible refine c_go ?_ ?_); (· exact rfl); refine ⟨_, fun G => (by (try simp only [fltT, entsT, List.nil_append, List.cons_append]); rfl), ?_⟩); first | refine c_val _ (fun _ => e_move rfl rfl) (fun _ => rfl) rfl (by first | exact fun _ _ _ => rfl | (intro G G' h; simp (decide := true) only [h])) ?_ | refine c_val _ (fun _ => e_load' rfl rfl (by exact rfl)) (fun _ => rfl) rfl (by first | exact fun _ _ _ => rfl | (intro G G' h; simp (decide := true) only [h])) ?_ | (refine c_isField rfl ?_; refine c_val _ (fun _ => e_field rfl rfl) (fun _ => rfl) rfl (by first | exact fun _ _ _ => rfl | (intro G G' h; simp (decide := true) only [h])) ?_) | refine c_val _ (fun _ => e_add1 rfl rfl rfl (by omega)) (fun _ => rfl) rfl (by first | exact fun _ _ _ => rfl | (intro G G' h; simp (decide := true) only [h])) ?_ | refine c_val _ (fun _ => e_indexA rfl rfl rfl rfl (by first | decide | omega)) (fun _ => rfl) rfl (by first | exact fun _ _ _ => rfl | (intro G G' h; simp (decide := true) only [h])) ?_ | refine c_val _ (fun _ => e_neg rfl rfl (by rw [Int.zero_sub]; exact IntWalk.i64_in _ (by omega))) (fun _ => rfl) rfl (by first | exact fun _ _ _ => rfl | (intro G G' h; simp (decide := true) only [h])) ?_) | (refine c_store (cs := cellsM M) (cs' := cellsM (setM M i (i + 1) z.fall.hi)) rfl (fun _ => rfl) rfl rfl rfl rfl (fun _ => rfl) (fun _ => rfl) rfl rfl (Nat.ble_eq_true_of_le (by simp [cellsM]; omega)) (cellsM_set m1.lt _) ?_) | ((with_reducible refine c_tail ?_ ?_); (· exact rfl))))
      (intro G; simp only [regsT, entsT, Pend.at_none, List.nil_append, List.cons_append])
      simp (decide := true) only [Pend.at_lt, List.nil_append, List.cons_append]
      (repeat' (first | ((with_reducible refine isOps ?_); first | refine u_move rfl rfl rfl rfl rfl ?_ | refine u_storeM rfl rfl rfl rfl rfl ?_ | refine u_add1 rfl rfl rfl rfl rfl rfl (by omega) ?_) | (with_reducible first | refine u_region ?_ | refine u_nil ?_ | refine u_then_n ?_ | refine u_in_n ?_)))
      refine u_again (i + 1, setM (setM M i (i + 1) z.fall.hi) (i + 1) i (-z.fall.lo)) ⟨by omega, ?_⟩ (by simp only; omega) (by (first | exact fun _ _ h => lk_nil h | (repeat (first | exact (fun _ _ h => lk_nil h) | (refine lk_sub rfl ?_))))) (by (repeat (first | exact Out.nil _ | (refine Out.cons (by (repeat (first | exact Take.here _ _ | apply Take.there))) ?_))))
      exact spTo_set hM (by rw [hsp]) (by rw [hsp])
    obtain rfl : i = t.length := by omega
    have hA := spTo_end hM rfl
    clear hM hi hlt
    (repeat' (first | ((with_reducible refine isOps ?_); first | refine u_move rfl rfl rfl rfl rfl ?_ | (refine u_cmp rfl rfl rfl rfl rfl rfl rfl (fun h => ?_) (fun h => ?_) <;> (dsimp only [cmpP] at h; (try (exfalso; omega)))) | refine u_range rfl rfl rfl rfl rfl hmap ?_; intro r) | (with_reducible first | refine u_seq ?_ | refine u_region ?_ | refine u_nil ?_ | refine u_then_n ?_ | refine u_block ?_ | refine u_exit ?_ | refine u_in_same ?_ | refine u_then_e ?_) | ((with_reducible refine u_cond_f ?_ ?_); (· exact rfl))))
    refine u_loop (ι := List Nat × Mat) (fun j => j.1.Nodup ∧ (∀ i ∈ j.1, i < ms.length) ∧ AgrM (t.length + 1) j.2 (meas 2 (T0 (falls t2)) (gotten ms j.1))) (fun j => [(1, .map (some m)), (4, .pointer (some ⟨b4, 0, none⟩)), (6, .pointer (some ⟨b6, 0, none⟩)), (7, .int .i64 ((t.length + 1 : Nat) : Int)), (8, .pointer (some ⟨b8, 0, none⟩)), (9, .int .i64 (2 : Int)), (10, .pointer (some ⟨bm, 0, none⟩)), (83, .pointer (some ⟨r, 0, none⟩))]) (fun j => [.it r m kb j.1, .blk bm (cellsM j.2), .blk b4 [.slice none 0 0], .blk b6 [.slice (some ⟨g, 0, none⟩) t.length c'], .blk b8 [.nilFunc, .func (.func 101) #[] #[], .func (.func 102) #[] #[]], .arr encSt 9 g (t2)]) (fun j => ms.length - j.1.length) ([], M) ⟨List.nodup_nil, by simp, hA⟩ (by (first | exact fun _ _ h => lk_nil h | (repeat (first | exact (fun _ _ h => lk_nil h) | (refine lk_sub rfl ?_))))) (by (repeat (first | exact Out.nil _ | (refine Out.cons (by (repeat (first | exact Take.here _ _ | apply Take.there))) ?_)))) ?_
    clear hA M
    rintro ⟨seen, M⟩ ⟨hnd, hsl, hA⟩
    simp only at hnd hsl hA ⊢
    (repeat' (first | ((with_reducible refine isOps ?_); first | refine u_move rfl rfl rfl rfl rfl ?_ | refine u_next rfl rfl rfl rfl rfl (by (repeat (first | exact Take.here _ _ | apply Take.there))) hmap hkb hsl (fun hall => ?_) (fun i me hi hni => ?_) | refine u_extract rfl rfl rfl rfl rfl rfl ?_) | (with_reducible first | refine u_seq ?_ | refine u_region ?_ | refine u_nil ?_ | refine u_then_n ?_ | refine u_skip ?_ | refine u_block ?_ | refine u_exit ?_ | refine u_in_same ?_ | refine u_then_e ?_) | ((with_reducible refine u_cond_t ?_ ?_); (· exact rfl)) | ((with_reducible refine u_cond_f ?_ ?_); (· exact rfl))))
    · have hokm : ∀ x ∈ ms, okMe (t.length + 1) x := fun x hx => meOk_okMe (hok x hx)
      have hsame := order_same (s := falls t2) hokm (gotten_all hall) 2
      have hdg : Diag (t.length + 1) M := fun a ha => (hA a a ha ha).trans (diag_meas _ _ (gotten_ok hokm) (T0_diag _ _) a ha)
      have hbm : BdM (t.length + 1) M := fun i k hi hk => by
        rw [hA i k hi hk]; exact meas_bd _ _ (gotten_ok hokm) (T0_bd okS2 _) i k hi hk
      (repeat' (first | ((with_reducible refine isOps ?_); first | refine u_move rfl rfl rfl rfl rfl ?_ | refine u_assign rfl rfl rfl rfl rfl ?_ | (refine x_load rfl rfl rfl rfl rfl ?_; refine ⟨_, rfl, ?_⟩) | refine u_field rfl rfl rfl rfl rfl ?_ | (refine u_callM rfl rfl rfl rfl rfl rfl (by (repeat (first | exact Take.here _ _ | apply Take.there))) (fun W hB => settle_any (t.length + 1) M bm W hB (by omega) hdg hbm) ?_; rintro ⟨fl, D⟩ ⟨hy, hn⟩; cases fl) | refine u_not rfl rfl rfl rfl rfl ?_ | refine u_len rfl rfl rfl rfl rfl ?_ | (refine x_store rfl rfl rfl rfl rfl ?_; refine And.intro rfl (And.intro (by first | decide | exact Nat.le_of_ble_eq_true rfl | (simp; omega)) ⟨_, rfl, ?_⟩)) | (refine x_build rfl rfl rfl rfl rfl ?_; refine ⟨_, rfl, ?_⟩)) | (with_reducible first | refine u_seq ?_ | refine u_region ?_ | refine u_nil ?_ | refine u_then_n ?_ | refine u_ret ?_ | refine u_skip ?_ | refine u_then_r ?_ | refine u_block ?_ | refine u_in_r ?_) | ((with_reducible refine u_cond_t ?_ ?_); (· exact rfl)) | ((with_reducible refine u_cond_f ?_ ?_); (· exact rfl))))
      · have hnf : ¬ fineK 2 (falls t2) ms (t.length + 1) := fun hf => hn rfl (fine_agr hA.symm (Nat.le_refl _) (hsame.1.2 hf))
        exact fun a W q => hret (no2 hnf) a W (q.sub (by (first | exact fun _ _ h => lk_nil h | (repeat (first | exact (fun _ _ h => lk_nil h) | (refine lk_sub rfl ?_))))) (by (repeat (first | exact Out.nil _ | (refine Out.cons (by (repeat (first | exact Take.here _ _ | apply Take.there))) ?_)))))
      · obtain ⟨hf1, hD⟩ := hy rfl
        simp only at hD
        have hfi : fineK 2 (falls t2) ms (t.length + 1) := hsame.1.1 (fine_agr hA (Nat.le_refl _) hf1)
        have hDE : AgrM (t.length + 1) D (dist 2 (falls t2) ms (t.length + 1)) := fun a b ha hb => by
          rw [hD a b ha hb]
          exact (fwTo_agr hA _ (Nat.le_refl _) a b ha hb).trans (hsame.2 (hsame.1.2 hfi) a b ha hb)
        have hDb : ∀ a b, a < t.length + 1 → b < t.length + 1 → -8796093022208 ≤ D a b ∧ D a b ≤ 8796093022208 := fun a b ha hb => by
          rw [hD a b ha hb]; exact fw_bd13 hbm (by omega) (Nat.le_refl _) ha hb
        refine u_loop (ι := Nat) (fun i => i ≤ t.length) (fun i => [(1, .map (some m)), (4, .pointer (some ⟨b4, 0, none⟩)), (6, .pointer (some ⟨b6, 0, none⟩)), (7, .int .i64 ((t.length + 1 : Nat) : Int)), (8, .pointer (some ⟨b8, 0, none⟩)), (9, .int .i64 (2 : Int)), (10, .pointer (some ⟨bm, 0, none⟩)), (134, .int .i64 (t.length : Int)), (135, .int .i64 (i : Int))]) (fun i => [.blk bm (cellsM D), .blk b4 [.slice none 0 0], .blk b6 [.slice (some ⟨g, 0, none⟩) t.length c'], .blk b8 [.nilFunc, .func (.func 101) #[] #[], .func (.func 102) #[] #[]], .arr encSt 9 g (updTo (setFall D) (t2) i)]) (fun i => t.length - i) 0 (Nat.zero_le _) (by (first | exact fun _ _ h => lk_nil h | (repeat (first | exact (fun _ _ h => lk_nil h) | (refine lk_sub rfl ?_))))) (by (try simp only [updTo_zero]); (repeat (first | exact Out.nil _ | (refine Out.cons (by (repeat (first | exact Take.here _ _ | apply Take.there))) ?_)))) ?_
        intro i hi
        by_cases hlt : i < t.length
        · have hz : (t2)[i]? = some ((t2)[i]'(by rw [len2]; exact hlt)) := by simp
          generalize (t2)[i]'(by rw [len2]; exact hlt) = z at hz
          have hz2 : (updTo (setFall D) (t2) i)[i]? = some z := by rw [updTo_get, hz]; simp
          have : GetI (updTo (setFall D) (t2) i) i z := ⟨hz2⟩
          have m1 : MatI i (i + 1) := ⟨by omega, by omega⟩
          have m2 : MatI (i + 1) i := ⟨by omega, by omega⟩
          have hb1 := hDb (i + 1) i (by omega) (by omega)
          have hb2 := hDb i (i + 1) (by omega) (by omega)
          (repeat' (first | ((with_reducible refine isOps ?_); first | refine u_move rfl rfl rfl rfl rfl ?_ | refine u_assign rfl rfl rfl rfl rfl ?_ | (refine u_cmp rfl rfl rfl rfl rfl rfl rfl (fun h => ?_) (fun h => ?_) <;> (dsimp only [cmpP] at h; (try (exfalso; omega))))) | (with_reducible first | refine u_seq ?_ | refine u_region ?_ | refine u_nil ?_ | refine u_then_n ?_ | refine u_skip ?_ | refine u_block ?_) | ((with_reducible refine u_cond_t ?_ ?_); (· exact rfl))))
          (refine u_chain (by kernel_rfl) [[], [true], [true, true], [true, true, true], [false, false, false, false], [true, false, false, false, false], [false, false, false, false, false, false], [true, true, true, false, false, false, false], [true, true, true, true, true, true, true, true], [false, false, false, false, false, false, false, false, false], [true, false, false, false, false, false, false, false, false, false], [false, false, false, false, false, false, false, false, false, false, false], [false, true, true, false, false, false, false, false, false, false, false, false], [true, true, true, true, false, false, false, false, false, false, false, false, false], [true, true, true, true, true, false, false, false, false, false, false, false, false, false], [true, true, true, true, true, true, false, false, false, false, false, false, false, false, false], [false, false, false, false, false, false, false, false, false, false, false, false, false, false, false, false], [false, false, false, false, false, false, false, false, false, false, false, false, false, false, false, false, false], [true, false, false, false, false, false, false, false, false, false, false, false, false, false, false, false, false, false], [false, false, true, false, false, false, false, false, false, false, false, false, false, false, false, false, false, false, false], [true, true, true, true, false, false, false, false, false, false, false, false, false, false, false, false, false, false, false, false], [true, true, true, true, true, false, false, false, false, false, false, false, false, false, false, false, false, false, false, false, false], [true, true, true, true, true, true, true, true, true, true, true, true, true, false, false, false, false, false, false, false, false, false], [true, true, true, true, true, true, true, true, true, true, true, true, true, true, true, true, true, true, true, true, true, true, true], [true, true, true, true, true, true, true, true, true, true, true, true, true, true, true, true, true, true, true, true, true, true, true, true]] (by kernel_rfl) (by kernel_rfl) ?_)
          (repeat' (first | (((with_reducible refine c_go ?_ ?_); (· exact rfl); refine ⟨_, fun G => (by (try simp only [fltT, entsT, List.nil_append, List.cons_append]); rfl), ?_⟩); first | refine c_val _ (fun _ => e_move rfl rfl) (fun _ => rfl) rfl (by first | exact fun _ _ _ => rfl | (intro G G' h; simp (decide := true) only [h])) ?_ | refine c_val _ (fun _ => e_load' rfl rfl (by exact rfl)) (fun _ => rfl) rfl (by first | exact fun _ _ _ => rfl | (intro G G' h; simp (decide := true) only [h])) ?_ | (refine c_isField rfl ?_; refine c_val _ (fun _ => e_field rfl rfl) (fun _ => rfl) rfl (by first | exact fun _ _ _ => rfl | (intro G G' h; simp (decide := true) only [h])) ?_) | refine c_gives _ rfl (fun _ => rfl) rfl (fun _ => rfl) (fun _ => rfl) (fun _ _ _ q => kind2_any _ _ _) (by first | exact fun _ _ _ => rfl | (intro G G' h; simp (decide := true) only [h])) ?_ | refine c_val _ (fun _ => e_add1 rfl rfl rfl (by omega)) (fun _ => rfl) rfl (by first | exact fun _ _ _ => rfl | (intro G G' h; simp (decide := true) only [h])) ?_ | refine c_val _ (fun _ => e_index rfl rfl rfl rfl (by omega)) (fun _ => rfl) rfl (by first | exact fun _ _ _ => rfl | (intro G G' h; simp (decide := true) only [h])) ?_ | refine c_val _ (fun _ => e_indexA rfl rfl rfl rfl (by first | decide | omega)) (fun _ => rfl) rfl (by first | exact fun _ _ _ => rfl | (intro G G' h; simp (decide := true) only [h])) ?_ | refine c_val _ (fun _ => e_nilCheck rfl rfl) (fun _ => rfl) rfl (by first | exact fun _ _ _ => rfl | (intro G G' h; simp (decide := true) only [h])) ?_ | refine c_val _ (fun _ => e_neg rfl rfl (by rw [Int.zero_sub]; exact IntWalk.i64_in _ (by omega))) (fun _ => rfl) rfl (by first | exact fun _ _ _ => rfl | (intro G G' h; simp (decide := true) only [h])) ?_ | refine c_val _ (fun _ => e_build' rfl rfl (by exact rfl)) (fun _ => rfl) rfl (by first | exact fun _ _ _ => rfl | (intro G G' h; simp (decide := true) only [h])) ?_) | ((with_reducible refine c_tail ?_ ?_); (· exact rfl))))
          (intro G; simp only [regsT, entsT, Pend.at_none, List.nil_append, List.cons_append])
          (repeat' (first | ((with_reducible refine isOps ?_); first | refine u_move rfl rfl rfl rfl rfl ?_ | refine u_storeA (setFall D i z) rfl rfl rfl rfl rfl rfl rfl rfl (by decide) ?_ | refine u_add1 rfl rfl rfl rfl rfl rfl (by omega) ?_) | (with_reducible first | refine u_region ?_ | refine u_nil ?_ | refine u_then_n ?_ | refine u_in_n ?_)))
          rw [updTo_set hz rfl]
          exact u_again (i + 1) (by omega) (by omega) (by (first | exact fun _ _ h => lk_nil h | (repeat (first | exact (fun _ _ h => lk_nil h) | (refine lk_sub rfl ?_))))) (by (repeat (first | exact Out.nil _ | (refine Out.cons (by (repeat (first | exact Take.here _ _ | apply Take.there))) ?_))))
        · obtain rfl : i = t.length := by omega
          have e : updTo (setFall D) (t2) t.length = stg t ms (2 + 1) := (updTo_agr (F := setFall) (fun j s hj => by unfold setFall; rw [newSp_agr hDE hj]) (by rw [len2]) _).trans end2
          rw [e]
          (repeat' (first | ((with_reducible refine isOps ?_); first | refine u_move rfl rfl rfl rfl rfl ?_ | refine u_assign rfl rfl rfl rfl rfl ?_ | (refine u_cmp rfl rfl rfl rfl rfl rfl rfl (fun h => ?_) (fun h => ?_) <;> (dsimp only [cmpP] at h; (try (exfalso; omega)))) | refine u_add rfl rfl rfl rfl rfl rfl (IntWalk.i64_in _ (by omega)) ?_) | (with_reducible first | refine u_seq ?_ | refine u_region ?_ | refine u_nil ?_ | refine u_then_n ?_ | refine u_exit ?_ | refine u_in_n ?_ | refine u_in_same ?_ | refine u_then_e ?_) | ((with_reducible refine u_cond_f ?_ ?_); (· exact rfl))))
          exact U.sub (by (first | exact fun _ _ h => lk_nil h | (repeat (first | exact (fun _ _ h => lk_nil h) | (refine lk_sub rfl ?_))))) (by (repeat (first | exact Out.nil _ | (refine Out.cons (by (repeat (first | exact Take.here _ _ | apply Take.there))) ?_)))) (hag (yes2 hfi))
    · have hme := hok me (List.mem_of_getElem? hi)
      have hme' := of_decide_eq_true hme
      have hN := nodup_snoc hnd hni
      have hS : ∀ x ∈ seen ++ [i], x < ms.length := fun x hx => by
        rcases List.mem_append.1 hx with h | h
        · exact hsl x h
        · simp at h; subst h; exact (List.getElem?_eq_some_iff.1 hi).1
      have hL := nodup_len ms.length _ hN hS
      simp only [List.length_append, List.length_singleton] at hL
      have hmu : ms.length - (seen ++ [i]).length < ms.length - seen.length := by simp only [List.length_append, List.length_singleton]; omega
      have hG := gotten_snoc (seen := seen) hi
      have hP := putMe_agr (kind := 2) (meOk_okMe hme) hA
      rw [← meas_snoc, ← hG] at hP
      obtain ⟨kd, fr, to_, vl⟩ := me
      simp only at hme'
      obtain ⟨F, rfl⟩ : ∃ F : Nat, fr = F := ⟨fr.toNat, by omega⟩
      obtain ⟨Z, rfl⟩ : ∃ Z : Nat, to_ = Z := ⟨to_.toNat, by omega⟩
      have hk1 : 1 ≤ (Me.mk kd F Z vl).kind ∧ (Me.mk kd F Z vl).kind ≤ 2 := ⟨hme'.1, hme'.2.1⟩
      have hv1 : 0 ≤ (Me.mk kd F Z vl).value.lo ∧ (Me.mk kd F Z vl).value.lo ≤ 360000 := ⟨hme'.2.2.2.2.2.2.2.1, by simp only; omega⟩
      have m1 : MatI F Z := ⟨by omega, by omega⟩
      have m2 : MatI Z F := ⟨by omega, by omega⟩
      (repeat' (first | ((with_reducible refine isOps ?_); first | refine u_move rfl rfl rfl rfl rfl ?_ | (refine x_load rfl rfl rfl rfl rfl ?_; refine ⟨_, rfl, ?_⟩) | refine u_field rfl rfl rfl rfl rfl ?_ | (refine u_cmp rfl rfl rfl rfl rfl rfl rfl (fun h => ?_) (fun h => ?_) <;> (dsimp only [cmpP] at h; (try (exfalso; omega)))) | refine u_entry rfl rfl rfl rfl rfl (by (repeat (first | exact Take.here _ _ | apply Take.there))) hmap hkb hi ?_ | refine u_extract rfl rfl rfl rfl rfl rfl ?_ | (refine x_store rfl rfl rfl rfl rfl ?_; refine And.intro rfl (And.intro (by first | decide | exact Nat.le_of_ble_eq_true rfl | (simp; omega)) ⟨_, rfl, ?_⟩)) | (refine u_alloc rfl rfl rfl rfl (fun b => ?_)) | refine u_convert rfl rfl rfl rfl rfl (IntWalk.i64_in _ (by omega)) ?_) | (with_reducible first | refine u_seq ?_ | refine u_region ?_ | refine u_nil ?_ | refine u_then_n ?_ | refine u_skip ?_ | refine u_in_n ?_) | ((with_reducible refine u_cond_t ?_ ?_); (· exact rfl)) | ((with_reducible refine u_cond_f ?_ ?_); (· exact rfl))))
      · (refine u_chain (by kernel_rfl) [[], [true], [false, false], [true, false, false], [false, false, false, false], [true, false, false, false, false], [false, false, false, false, false, false], [true, false, false, false, false, false, false], [false, false, true, true, false, false, false, false], [true, true, true, true, true, false, false, false, false], [true, true, true, true, true, true, false, false, false, false], [false, false, false, false, false, false, false, false, false, false, false], [true, false, false, false, false, false, false, false, false, false, false, false], [true, true, false, false, false, false, false, false, false, false, false, false, false], [true, true, true, true, true, true, true, true, true, true, false, false, false, false], [false, false, false, false, false, false, false, false, false, false, false, false, false, true, true], [true, true, true, true, true, true, true, true, true, true, true, true, true, true, true, true], [true, true, true, true, true, true, true, true, true, true, true, true, true, true, true, true, true]] (by kernel_rfl) (by kernel_rfl) ?_)
        (repeat' (first | (((with_reducible refine c_go ?_ ?_); (· exact rfl); refine ⟨_, fun G => (by (try simp only [fltT, entsT, List.nil_append, List.cons_append]); rfl), ?_⟩); first | refine c_val _ (fun _ => e_load' rfl rfl (by exact rfl)) (fun _ => rfl) rfl (by first | exact fun _ _ _ => rfl | (intro G G' h; simp (decide := true) only [h])) ?_ | (refine c_isField rfl ?_; refine c_val _ (fun _ => e_field rfl rfl) (fun _ => rfl) rfl (by first | exact fun _ _ _ => rfl | (intro G G' h; simp (decide := true) only [h])) ?_) | refine c_val _ (fun _ => e_indexA rfl rfl rfl rfl (by first | decide | omega)) (fun _ => rfl) rfl (by first | exact fun _ _ _ => rfl | (intro G G' h; simp (decide := true) only [h])) ?_ | refine c_val _ (fun _ => e_min rfl rfl rfl) (fun _ => rfl) rfl (by first | exact fun _ _ _ => rfl | (intro G G' h; simp (decide := true) only [h])) ?_) | ((with_reducible refine c_tail ?_ ?_); (· exact rfl))))
        (intro G; simp only [regsT, entsT, Pend.at_none, List.nil_append, List.cons_append])
        (repeat' (first | ((with_reducible refine isOps ?_); first | refine u_storeM rfl rfl rfl rfl rfl ?_) | (with_reducible first | refine u_nil ?_ | refine u_then_n ?_)))
        (refine u_chain (by kernel_rfl) [[], [true], [false, false], [true, false, false], [false, false, false, false], [true, false, false, false, false], [false, false, false, false, false, false], [true, false, false, false, false, false, false], [false, false, true, true, false, false, false, false], [true, true, true, true, true, false, false, false, false], [true, true, true, true, true, true, false, false, false, false], [false, false, false, false, false, false, false, false, false, false, false], [true, false, false, false, false, false, false, false, false, false, false, false], [true, true, false, false, false, false, false, false, false, false, false, false, false], [true, true, true, false, false, false, false, false, false, false, false, false, false, false], [true, true, true, true, true, true, true, true, true, true, true, false, false, false, false], [false, false, false, false, false, false, false, false, false, false, false, false, false, false, true, true], [true, true, true, true, true, true, true, true, true, true, true, true, true, true, true, true, true], [true, true, true, true, true, true, true, true, true, true, true, true, true, true, true, true, true, true]] (by kernel_rfl) (by kernel_rfl) ?_)
        (repeat' (first | (((with_reducible refine c_go ?_ ?_); (· exact rfl); refine ⟨_, fun G => (by (try simp only [fltT, entsT, List.nil_append, List.cons_append]); rfl), ?_⟩); first | refine c_val _ (fun _ => e_load' rfl rfl (by exact rfl)) (fun _ => rfl) rfl (by first | exact fun _ _ _ => rfl | (intro G G' h; simp (decide := true) only [h])) ?_ | (refine c_isField rfl ?_; refine c_val _ (fun _ => e_field rfl rfl) (fun _ => rfl) rfl (by first | exact fun _ _ _ => rfl | (intro G G' h; simp (decide := true) only [h])) ?_) | refine c_val _ (fun _ => e_indexA rfl rfl rfl rfl (by first | decide | omega)) (fun _ => rfl) rfl (by first | exact fun _ _ _ => rfl | (intro G G' h; simp (decide := true) only [h])) ?_ | refine c_val _ (fun _ => e_neg rfl rfl (by rw [Int.zero_sub]; exact IntWalk.i64_in _ (by omega))) (fun _ => rfl) rfl (by first | exact fun _ _ _ => rfl | (intro G G' h; simp (decide := true) only [h])) ?_ | refine c_val _ (fun _ => e_min rfl rfl rfl) (fun _ => rfl) rfl (by first | exact fun _ _ _ => rfl | (intro G G' h; simp (decide := true) only [h])) ?_) | ((with_reducible refine c_tail ?_ ?_); (· exact rfl))))
        (intro G; simp only [regsT, entsT, Pend.at_none, List.nil_append, List.cons_append])
        (repeat' (first | ((with_reducible refine isOps ?_); first | refine u_storeM rfl rfl rfl rfl rfl ?_) | (with_reducible first | refine u_nil ?_ | refine u_then_n ?_ | refine u_in_n ?_)))
        refine u_again (seen ++ [i], _) ⟨hN, hS, ?_⟩ hmu (by (first | exact fun _ _ h => lk_nil h | (repeat (first | exact (fun _ _ h => lk_nil h) | (refine lk_sub rfl ?_))))) (by (repeat (first | exact Out.nil _ | (refine Out.cons (by (repeat (first | exact Take.here _ _ | apply Take.there))) ?_))))
        have e : putMe 2 M ⟨kd, F, Z, vl⟩ = setM (setM M F Z (min (M F Z) vl.hi)) Z F (min (setM M F Z (min (M F Z) vl.hi) Z F) (-vl.lo)) := by
          unfold putMe; rw [if_pos (by first | exact h | omega)]; rfl
        rw [e] at hP
        exact hP
      · refine u_again (seen ++ [i], M) ⟨hN, hS, ?_⟩ hmu (by (first | exact fun _ _ h => lk_nil h | (repeat (first | exact (fun _ _ h => lk_nil h) | (refine lk_sub rfl ?_))))) (by (repeat (first | exact Out.nil _ | (refine Out.cons (by (repeat (first | exact Take.here _ _ | apply Take.there))) ?_))))
        have e : putMe 2 M ⟨kd, F, Z, vl⟩ = M := by
          unfold putMe; rw [if_neg (by first | exact h | omega)]
        rw [e] at hP
        exact hP

end Go.Proofs.Ytekjkaoibcfgfaa
