/- Ice: what is free, by the reference. -/
import Derived.Test.YtdigopgncfhiaaaDoorA15
import Derived.Test.YtdigopgncfhiaaaDoorA5
namespace Go.Proofs.YtdigopgncfhiaaaDoor
open Go.RowKit
set_option linter.unusedSimpArgs false
set_option linter.unusedVariables false
set_option maxRecDepth 20000
/-- hours that may be, so far -/
def mayP (c : Cov) (h : Nat) : List Bool := coldL c h ++ List.replicate (c.hours.length - h) false
theorem mayP_len {c : Cov} {h : Nat} (hh : h ≤ c.hours.length) : (mayP c h).length = c.hours.length := by simp [mayP, coldL]; omega
theorem mayP_zero {c : Cov} : mayP c 0 = List.replicate c.hours.length false := by simp [mayP, coldL]
theorem mayP_end {c : Cov} : mayP c c.hours.length = c.hours.map (·.cold) := by simp [mayP, coldL]
theorem mayP_set {c : Cov} {h : Nat} {u : Hour} (hu : c.hours[h]? = some u) : (mayP c h).set h u.cold = mayP c (h + 1) := by
  obtain ⟨hi, e⟩ := List.getElem?_eq_some_iff.1 hu
  unfold mayP
  have hl := coldL_len (c := c) (h := h) (by omega)
  rw [List.set_append_right _ _ (by omega), hl, Nat.sub_self, coldL_succ hu, List.append_assoc]
  congr 1
  obtain ⟨m, hm⟩ : ∃ m, c.hours.length - h = m + 1 := ⟨c.hours.length - h - 1, by omega⟩
  rw [hm, show c.hours.length - (h + 1) = m by omega, List.replicate_succ]
  rfl
theorem mayP_same {c : Cov} {h : Nat} {u : Hour} (hu : c.hours[h]? = some u) (h0 : u.cold = false) : mayP c h = mayP c (h + 1) := by
  rw [← mayP_set hu, h0]
  obtain ⟨hi, e⟩ := List.getElem?_eq_some_iff.1 hu
  have : (mayP c h)[h]? = some false := by
    unfold mayP
    have hl := coldL_len (c := c) (h := h) (by omega)
    rw [List.getElem?_append_right (by omega), hl, List.getElem?_replicate, if_pos (by omega)]
  obtain ⟨h1, h2⟩ := List.getElem?_eq_some_iff.1 this
  conv => lhs; rw [← List.set_getElem_self h1]
  rw [h2]
/-- rows of which i are so and the others so -/
def twoRows {α : Type} (nb i : Nat) (a b : List α) : List (List α) := List.replicate i a ++ List.replicate (nb - i) b
theorem twoRows_zero {α : Type} {nb : Nat} {a b : List α} : twoRows nb 0 a b = List.replicate nb b := by simp [twoRows]
theorem twoRows_end {α : Type} {nb : Nat} {a b : List α} : twoRows nb nb a b = List.replicate nb a := by simp [twoRows]
theorem twoRows_len {α : Type} {nb i : Nat} {a b : List α} (h : i ≤ nb) : (twoRows nb i a b).length = nb := by simp [twoRows]; omega
theorem twoRows_at {α : Type} {nb i : Nat} {a b : List α} (hi : i < nb) : (twoRows nb i a b)[i]? = some b := by
  unfold twoRows
  rw [List.getElem?_append_right (by simp), List.length_replicate, Nat.sub_self, List.getElem?_replicate, if_pos (by omega)]
theorem twoRows_set {α : Type} {nb i : Nat} {a b : List α} (hi : i < nb) : (twoRows nb i a b).set i a = twoRows nb (i + 1) a b := by
  unfold twoRows
  rw [List.set_append_right _ _ (by simp), List.length_replicate, Nat.sub_self]
  obtain ⟨m, hm⟩ : ∃ m, nb - i = m + 1 := ⟨nb - i - 1, by omega⟩
  rw [hm, show nb - (i + 1) = m by omega, List.replicate_succ, List.set_cons_zero, List.replicate_succ', List.append_assoc]
  rfl
set_option maxHeartbeats 4000000 in
theorem rfree_any (c : Cov) (A : Option Addr) (ca : Nat) (B : Option Addr) (cb : Nat) (C : Option Addr) (cc : Nat) (w : World) (h : CovAt w c A B C) (hs : Small c) (hf : Fine c) :
    Ret Tryd.prog 43 [vCov c A ca B cb C cc] w (fun p : (Nat × List (SlOf Bool)) × Nat => .tuple #[.slice (some ⟨p.1.1, 0, none⟩) c.beds.length c.beds.length, .slice (some ⟨p.2, 0, none⟩) c.hours.length c.hours.length])
      (fun p => [.tabG encOf (rowOf encBl 1 4) p.1.1 p.1.2, .row encI 1 3 (.slice (some ⟨p.2, 0, none⟩) c.hours.length c.hours.length) (handsL c)]) (fun p => p.1.2.map (·.xs) = mayL c) := by
  have h4 := hs.b; have h5 := hs.h
  have hb := h.b; have hh := h.h
  have hh1 := hf.hours
  rw [inB_iff] at hh1
  unfold vCov cellsCov
  (refine ret_enter (n := 69) Tryd.func43 rfl rfl rfl ?_)
  (repeat' (first | ((with_reducible refine isOps ?_); first | refine u_assign rfl rfl rfl rfl rfl ?_ | (refine x_load rfl rfl rfl rfl rfl ?_; refine ⟨_, rfl, ?_⟩) | refine u_field rfl rfl rfl rfl rfl ?_ | refine u_makeR (enc := encI) (0 : Int) (n0 := c.hours.length) rfl rfl rfl rfl rfl rfl rfl rfl rfl rfl rfl rfl (by omega) (fun gh => ?_) | refine u_makeC rfl rfl rfl rfl rfl rfl rfl rfl rfl rfl rfl (by omega) (fun gm => ?_) | refine u_len rfl rfl rfl rfl rfl ?_ | (refine u_box rfl rfl rfl rfl rfl rfl (fun b => ?_))) | (with_reducible first | refine u_seq ?_ | refine u_region ?_ | refine u_nil ?_ | refine u_then_n ?_ | refine u_block ?_)))
  refine u_tabNew (enc := encBl) (k := 1) (e := 4) (Take.here _ _) ?_
  obtain ⟨b1, hb1⟩ : ∃ b1, b1 = b := ⟨_, rfl⟩
  subst hb1
  refine u_loopP (ι := Nat × List (SlOf Bool)) [1, 4, 5] rfl (fun p => p.1 ≤ c.beds.length ∧ p.2.map (·.xs) = twoRows c.beds.length p.1 (mayP c 0) []) (fun p => [(6, .int .i64 (p.1 : Int))]) (fun p => [.tabG encOf (rowOf encBl 1 4) gm p.2, .row encI 1 3 (.slice (some ⟨gh, 0, none⟩) c.hours.length c.hours.length) (List.replicate c.hours.length 0), .blk b1 (cellsCov c A ca B cb C cc)]) (fun p => c.beds.length - p.1) (0, List.replicate c.beds.length nilOf) ⟨Nat.zero_le _, by simp [twoRows, nilOf]⟩ (by (first | exact fun _ _ h => lk_nil h | (repeat (first | exact (fun _ _ h => lk_nil h) | (refine lk_sub rfl ?_))))) (by (repeat (first | exact Out.nil _ | (refine Out.cons (by (repeat (first | exact Take.here _ _ | apply Take.there))) ?_)))) ?_
  rintro ⟨i, M⟩ ⟨hi, hM⟩
  simp only at hi hM
  simp only [zipR, cellsCov, List.cons_append, List.nil_append]
  have hMl : M.length = c.beds.length := by
    have := congrArg List.length hM
    rw [twoRows_len hi] at this; simpa using this
  by_cases hil : i < c.beds.length
  · obtain ⟨s, hs1⟩ : ∃ s, M[i]? = some s := ⟨_, List.getElem?_eq_getElem (by omega)⟩
    (repeat' (first | ((with_reducible refine isOps ?_); first | refine u_move rfl rfl rfl rfl rfl ?_ | (refine x_load rfl rfl rfl rfl rfl ?_; refine ⟨_, rfl, ?_⟩) | refine u_field rfl rfl rfl rfl rfl ?_ | (refine u_cmp rfl rfl rfl rfl rfl rfl rfl (fun h => ?_) (fun h => ?_) <;> (dsimp only [cmpP] at h; (try (exfalso; omega)))) | refine u_len rfl rfl rfl rfl rfl ?_) | (with_reducible first | refine u_seq ?_ | refine u_region ?_ | refine u_nil ?_ | refine u_then_n ?_ | refine u_skip ?_ | refine u_block ?_) | ((with_reducible refine u_cond_t ?_ ?_); (· exact rfl))))
    refine u_tabOpen i hs1 (by (repeat (first | exact Take.here _ _ | apply Take.there))) ?_
    (repeat' (first | ((with_reducible refine isOps ?_); first | refine u_move rfl rfl rfl rfl rfl ?_ | refine u_assign rfl rfl rfl rfl rfl ?_ | refine u_makeR (enc := encBl) false (n0 := c.hours.length) rfl rfl rfl rfl rfl rfl rfl rfl rfl rfl rfl rfl (by omega) (fun gr => ?_) | refine u_storeL (hd := encOf) (i := i) (s := s) ⟨some ⟨gr, 0, none⟩, List.replicate c.hours.length false, c.hours.length⟩ rfl rfl rfl rfl rfl (by simp [encOf, Value.cells]) (by (repeat (first | exact Take.here _ _ | apply Take.there))) (by omega) ?_ | refine u_add1 rfl rfl rfl rfl rfl rfl (by omega) ?_ | refine u_index rfl rfl rfl rfl rfl rfl rfl (by omega) ?_) | (with_reducible first | refine u_region ?_ | refine u_nil ?_ | refine u_then_n ?_ | refine u_in_n ?_)))
    refine u_own (H' := [.arr encOf 1 gm (M.set i ⟨some ⟨gr, 0, none⟩, List.replicate c.hours.length false, c.hours.length⟩), rowOf encBl 1 4 ⟨some ⟨gr, 0, none⟩, List.replicate c.hours.length false, c.hours.length⟩, .all ((M.eraseIdx i).map (rowOf encBl 1 4)), .row encI 1 3 (.slice (some ⟨gh, 0, none⟩) c.hours.length c.hours.length) (List.replicate c.hours.length 0), .blk b1 (cellsCov c A ca B cb C cc)]) (fun _ h => by unfold rowOf; simp only [List.length_replicate]; exact h.sub (by (repeat (first | exact Out.nil _ | (refine Out.cons (by (repeat (first | exact Take.here _ _ | apply Take.there))) ?_))))) ?_
    refine u_tabShut i (re := rowOf encBl 1 4) ⟨some ⟨gr, 0, none⟩, List.replicate c.hours.length false, c.hours.length⟩ hs1 (by (repeat (first | exact Take.here _ _ | apply Take.there))) (by (repeat (first | exact Take.here _ _ | apply Take.there))) (by (repeat (first | exact Take.here _ _ | apply Take.there))) ?_
    refine u_again (i + 1, M.set i ⟨some ⟨gr, 0, none⟩, List.replicate c.hours.length false, c.hours.length⟩) ⟨by simp only; omega, ?_⟩ (by simp only; omega) (by (first | exact fun _ _ h => lk_nil h | (repeat (first | exact (fun _ _ h => lk_nil h) | (refine lk_sub rfl ?_))))) (by (repeat (first | exact Out.nil _ | (refine Out.cons (by (repeat (first | exact Take.here _ _ | apply Take.there))) ?_))))
    simp only
    rw [List.map_set, hM, ← mayP_zero, twoRows_set hil]
  obtain rfl : i = c.beds.length := by omega
  (repeat' (first | ((with_reducible refine isOps ?_); first | refine u_move rfl rfl rfl rfl rfl ?_ | refine u_assign rfl rfl rfl rfl rfl ?_ | (refine x_load rfl rfl rfl rfl rfl ?_; refine ⟨_, rfl, ?_⟩) | refine u_field rfl rfl rfl rfl rfl ?_ | (refine u_cmp rfl rfl rfl rfl rfl rfl rfl (fun h => ?_) (fun h => ?_) <;> (dsimp only [cmpP] at h; (try (exfalso; omega)))) | refine u_len rfl rfl rfl rfl rfl ?_) | (with_reducible first | refine u_seq ?_ | refine u_region ?_ | refine u_nil ?_ | refine u_then_n ?_ | refine u_block ?_ | refine u_exit ?_ | refine u_in_same ?_ | refine u_then_e ?_) | ((with_reducible refine u_cond_f ?_ ?_); (· exact rfl))))
  rw [twoRows_end] at hM
  refine u_loopP (ι := Nat × List (SlOf Bool)) [1, 4, 5] rfl (fun p => p.1 ≤ c.hours.length ∧ p.2.map (·.xs) = List.replicate c.beds.length (mayP c p.1)) (fun p => [(7, .int .i64 (p.1 : Int))]) (fun p => [.tabG encOf (rowOf encBl 1 4) gm p.2, .row encI 1 3 (.slice (some ⟨gh, 0, none⟩) c.hours.length c.hours.length) (handsN c p.1), .blk b1 (cellsCov c A ca B cb C cc)]) (fun p => c.hours.length - p.1) (0, M) ⟨Nat.zero_le _, hM⟩ (by (first | exact fun _ _ h => lk_nil h | (repeat (first | exact (fun _ _ h => lk_nil h) | (refine lk_sub rfl ?_))))) (by simp only [handsN_zero]; (repeat (first | exact Out.nil _ | (refine Out.cons (by (repeat (first | exact Take.here _ _ | apply Take.there))) ?_)))) ?_
  clear hM hMl M
  rintro ⟨j, M⟩ ⟨hj, hM⟩
  simp only at hj hM
  simp only [zipR, cellsCov, List.cons_append, List.nil_append]
  by_cases hjl : j < c.hours.length
  · obtain ⟨u, hu⟩ : ∃ u, c.hours[j]? = some u := ⟨_, List.getElem?_eq_getElem hjl⟩
    obtain ⟨bc, oc, rfl, _, _⟩ := hh.at_ hjl
    have : InS w bc oc encHour 5 c.hours := ⟨hh⟩
    have : GetI c.hours j u := ⟨hu⟩
    have hhl := handsN_len (c := c) (h := j) (by omega)
    have hce := handsN_set hu
    have hcn := handsN_same hu
    have hme := mayP_set hu
    have hmn := mayP_same hu
    have hml := mayP_len (c := c) (h := j) (by omega)
    obtain ⟨um, ur, uc, cold⟩ := u
    unfold handO at hce hcn
    simp only at hce hcn hme hmn
    cases cold
    · simp only [Bool.false_eq_true, if_false] at hce hcn
      rw [hcn trivial]
      rw [hmn rfl] at hM
      (repeat' (first | ((with_reducible refine isOps ?_); first | refine u_move rfl rfl rfl rfl rfl ?_ | refine u_assign rfl rfl rfl rfl rfl ?_ | (refine x_load rfl rfl rfl rfl rfl ?_; refine ⟨_, rfl, ?_⟩) | refine u_field rfl rfl rfl rfl rfl ?_ | (refine u_cmp rfl rfl rfl rfl rfl rfl rfl (fun h => ?_) (fun h => ?_) <;> (dsimp only [cmpP] at h; (try (exfalso; omega)))) | refine u_not rfl rfl rfl rfl rfl ?_ | refine u_add1 rfl rfl rfl rfl rfl rfl (by omega) ?_ | refine u_index rfl rfl rfl rfl rfl rfl rfl (by omega) ?_ | refine u_len rfl rfl rfl rfl rfl ?_) | (with_reducible first | refine u_seq ?_ | refine u_region ?_ | refine u_nil ?_ | refine u_then_n ?_ | refine u_skip ?_ | refine u_block ?_ | refine u_exit ?_ | refine u_in_same ?_ | refine u_then_e ?_) | ((with_reducible refine u_cond_t ?_ ?_); (· exact rfl))))
      exact u_again (j + 1, M) ⟨by simp only; omega, hM⟩ (by simp only; omega) (by (first | exact fun _ _ h => lk_nil h | (repeat (first | exact (fun _ _ h => lk_nil h) | (refine lk_sub rfl ?_))))) (by (repeat (first | exact Out.nil _ | (refine Out.cons (by (repeat (first | exact Take.here _ _ | apply Take.there))) ?_))))
    · simp only [if_true] at hce
      (repeat' (first | ((with_reducible refine isOps ?_); first | refine u_move rfl rfl rfl rfl rfl ?_ | refine u_assign rfl rfl rfl rfl rfl ?_ | (refine x_load rfl rfl rfl rfl rfl ?_; refine ⟨_, rfl, ?_⟩) | refine u_field rfl rfl rfl rfl rfl ?_ | (refine u_cmp rfl rfl rfl rfl rfl rfl rfl (fun h => ?_) (fun h => ?_) <;> (dsimp only [cmpP] at h; (try (exfalso; omega)))) | refine u_storeR (enc := encI) (i := j) uc rfl rfl rfl rfl rfl rfl rfl rfl (by omega) ?_ | refine u_not rfl rfl rfl rfl rfl ?_ | refine u_index rfl rfl rfl rfl rfl rfl rfl (by omega) ?_ | refine u_len rfl rfl rfl rfl rfl ?_) | (with_reducible first | refine u_seq ?_ | refine u_region ?_ | refine u_nil ?_ | refine u_then_n ?_ | refine u_skip ?_ | refine u_block ?_) | ((with_reducible refine u_cond_t ?_ ?_); (· exact rfl)) | ((with_reducible refine u_cond_f ?_ ?_); (· exact rfl))))
      rw [hce]
      rw [← twoRows_zero (a := mayP c (j + 1))] at hM
      refine u_loopP (ι := Nat × List (SlOf Bool)) [1, 4, 5, 7] rfl (fun p => p.1 ≤ c.beds.length ∧ p.2.map (·.xs) = twoRows c.beds.length p.1 (mayP c (j + 1)) (mayP c j)) (fun p => [(8, .int .i64 (p.1 : Int))]) (fun p => [.tabG encOf (rowOf encBl 1 4) gm p.2, .row encI 1 3 (.slice (some ⟨gh, 0, none⟩) c.hours.length c.hours.length) (handsN c (j + 1)), .blk b1 (cellsCov c A ca B cb (some ⟨bc, oc, none⟩) cc)]) (fun p => c.beds.length - p.1) (0, M) ⟨Nat.zero_le _, hM⟩ (by (first | exact fun _ _ h => lk_nil h | (repeat (first | exact (fun _ _ h => lk_nil h) | (refine lk_sub rfl ?_))))) (by (repeat (first | exact Out.nil _ | (refine Out.cons (by (repeat (first | exact Take.here _ _ | apply Take.there))) ?_)))) ?_
      rintro ⟨i, M⟩ ⟨hi, hM⟩
      simp only at hi hM
      simp only [zipR, cellsCov, List.cons_append, List.nil_append]
      have hMl : M.length = c.beds.length := by
        have := congrArg List.length hM
        rw [twoRows_len hi] at this; simpa using this
      by_cases hil : i < c.beds.length
      · obtain ⟨s, hs1⟩ : ∃ s, M[i]? = some s := ⟨_, List.getElem?_eq_getElem (by omega)⟩
        have hsx : s.xs = mayP c j := by
          have h1 := twoRows_at (a := mayP c (j + 1)) (b := mayP c j) hil
          rw [← hM, List.getElem?_map, hs1] at h1
          exact Option.some.inj h1
        obtain ⟨sA, sx, sc⟩ := s
        simp only at hsx
        have hsl : sx.length = c.hours.length := by rw [hsx, hml]
        (repeat' (first | ((with_reducible refine isOps ?_); first | refine u_move rfl rfl rfl rfl rfl ?_ | (refine x_load rfl rfl rfl rfl rfl ?_; refine ⟨_, rfl, ?_⟩) | refine u_field rfl rfl rfl rfl rfl ?_ | (refine u_cmp rfl rfl rfl rfl rfl rfl rfl (fun h => ?_) (fun h => ?_) <;> (dsimp only [cmpP] at h; (try (exfalso; omega)))) | refine u_index rfl rfl rfl rfl rfl rfl rfl (by omega) ?_ | refine u_len rfl rfl rfl rfl rfl ?_) | (with_reducible first | refine u_seq ?_ | refine u_region ?_ | refine u_nil ?_ | refine u_then_n ?_ | refine u_skip ?_ | refine u_block ?_) | ((with_reducible refine u_cond_t ?_ ?_); (· exact rfl))))
        refine u_tabOpen i hs1 (by (repeat (first | exact Take.here _ _ | apply Take.there))) ?_
        simp only [rowOf]
        refine u_rowSome (A := sA) (xs := sx) (k := 1) (e := 4) (enc := encBl) (m := sx.length) (c := sc) (Take.there _ (Take.here _ _)) (by omega) ?_
        rintro gs rfl
        have : GetI (M.set i ⟨some ⟨gs, 0, none⟩, sx, sc⟩) i ⟨some ⟨gs, 0, none⟩, sx, sc⟩ := ⟨List.getElem?_set_self (by omega)⟩
        (repeat' (first | ((with_reducible refine isOps ?_); first | refine u_move rfl rfl rfl rfl rfl ?_ | refine u_assign rfl rfl rfl rfl rfl ?_ | (refine x_load rfl rfl rfl rfl rfl ?_; refine ⟨_, rfl, ?_⟩) | refine u_index (I := j) rfl rfl rfl rfl rfl rfl rfl (by dsimp only; omega) ?_ | refine u_storeR (enc := encBl) (i := j) true rfl rfl rfl rfl rfl rfl rfl rfl (by omega) ?_ | refine u_add1 rfl rfl rfl rfl rfl rfl (by omega) ?_) | (with_reducible first | refine u_region ?_ | refine u_nil ?_ | refine u_then_n ?_ | refine u_in_n ?_)))
        refine u_tabShutR (enc := encBl) (k := 1) (e := 4) i (s := ⟨some ⟨gs, 0, none⟩, sx, sc⟩) (sx.set j true) (by simp) hs1 (by (repeat (first | exact Take.here _ _ | apply Take.there))) (by (repeat (first | exact Take.here _ _ | apply Take.there))) (by (repeat (first | exact Take.here _ _ | apply Take.there))) ?_
        refine u_again (i + 1, M.set i ⟨some ⟨gs, 0, none⟩, sx.set j true, sc⟩) ⟨by simp only; omega, ?_⟩ (by simp only; omega) (by (first | exact fun _ _ h => lk_nil h | (repeat (first | exact (fun _ _ h => lk_nil h) | (refine lk_sub rfl ?_))))) (by (repeat (first | exact Out.nil _ | (refine Out.cons (by (repeat (first | exact Take.here _ _ | apply Take.there))) ?_))))
        simp only
        rw [List.map_set, hM, hsx, hme, twoRows_set hil]
      · obtain rfl : i = c.beds.length := by omega
        (repeat' (first | ((with_reducible refine isOps ?_); first | refine u_move rfl rfl rfl rfl rfl ?_ | refine u_assign rfl rfl rfl rfl rfl ?_ | (refine x_load rfl rfl rfl rfl rfl ?_; refine ⟨_, rfl, ?_⟩) | refine u_field rfl rfl rfl rfl rfl ?_ | (refine u_cmp rfl rfl rfl rfl rfl rfl rfl (fun h => ?_) (fun h => ?_) <;> (dsimp only [cmpP] at h; (try (exfalso; omega)))) | refine u_add1 rfl rfl rfl rfl rfl rfl (by omega) ?_ | refine u_len rfl rfl rfl rfl rfl ?_) | (with_reducible first | refine u_seq ?_ | refine u_region ?_ | refine u_nil ?_ | refine u_then_n ?_ | refine u_exit ?_ | refine u_in_n ?_ | refine u_in_same ?_ | refine u_then_e ?_) | ((with_reducible refine u_cond_f ?_ ?_); (· exact rfl))))
        refine u_again (j + 1, M) ⟨by simp only; omega, ?_⟩ (by simp only; omega) (by (first | exact fun _ _ h => lk_nil h | (repeat (first | exact (fun _ _ h => lk_nil h) | (refine lk_sub rfl ?_))))) (by (repeat (first | exact Out.nil _ | (refine Out.cons (by (repeat (first | exact Take.here _ _ | apply Take.there))) ?_))))
        simp only
        rw [hM, twoRows_end]
  · obtain rfl : j = c.hours.length := by omega
    (repeat' (first | ((with_reducible refine isOps ?_); first | refine u_move rfl rfl rfl rfl rfl ?_ | refine u_assign rfl rfl rfl rfl rfl ?_ | (refine x_load rfl rfl rfl rfl rfl ?_; refine ⟨_, rfl, ?_⟩) | refine u_field rfl rfl rfl rfl rfl ?_ | (refine u_cmp rfl rfl rfl rfl rfl rfl rfl (fun h => ?_) (fun h => ?_) <;> (dsimp only [cmpP] at h; (try (exfalso; omega)))) | refine u_len rfl rfl rfl rfl rfl ?_) | (with_reducible first | refine u_seq ?_ | refine u_region ?_ | refine u_nil ?_ | refine u_then_n ?_ | refine u_ret ?_ | refine u_exit ?_ | refine u_in_same ?_ | refine u_then_e ?_) | ((with_reducible refine u_cond_f ?_ ?_); (· exact rfl))))
    refine u_done (by (exact ResL.cons (by exact Res1.tmp rfl) (ResL.cons (by exact Res1.tmp rfl) ResL.nil))) ((gm, M), gh) ?_ rfl (fun _ h => ?_)
    · simp only; rw [hM, mayP_end]; rfl
    · rw [← handsN_end]; exact h.sub (by (repeat (first | exact Out.nil _ | (refine Out.cons (by (repeat (first | exact Take.here _ _ | apply Take.there))) ?_))))
end Go.Proofs.YtdigopgncfhiaaaDoor
/- Bits of numbers. -/
namespace Go.Proofs.YtdigopgncfhiaaaDoor
variable {ro : Option Nat}
open Go.RowKit
set_option linter.unusedSimpArgs false
set_option linter.unusedVariables false
set_option linter.unusedSectionVars false
section
variable {P : Program} {w0 : World} {n : Nat} {d : List Deferred} {R : List (Nat × Value)} {H : List Ent} {Q : Exit → Act → World → Prop} {ops : Array Oper} {rest : List Oper} {o : Oper} {t : Tmp} {x y : Operand} {T T' : TypeId} {k k' : IntKind} {i j : Int}
theorem e_shr {m h : Nat} (hop : o.op = .binOp .shr T x y T') (hx : evR R x = some (.int .i64 (m : Int))) (hy : evR R y = some (.int k' (h : Int))) (hh : h ≤ 64) : Ev P w0 n d R H o (.int .i64 ((m >>> h : Nat) : Int)) :=
  (fun a w q => by
    unfold execOp; rw [hop]
    have e1 : ((m : Int).fdiv (2 ^ h)) = ((m >>> h : Nat) : Int) := by
      rw [Nat.shiftRight_eq_div_pow, Int.fdiv_eq_ediv_of_nonneg _ (by exact Int.le_of_lt (Int.pow_pos (by omega)))]
      rw [Int.natCast_ediv, Int.natCast_pow]; rfl
    have e2 : min (h : Int).toNat IntKind.i64.bits = h := by simp [IntKind.bits]; omega
    have e3 : ¬ ((h : Int) < 0) := by omega
    simp only [Sem.run_bind, q.ev hx, q.ev hy, eqGuard, binOp, Op.shift, e3, if_false, e2, e1, Bool.not_false, if_true, Sem.run_pure, Result.andThen_ok])
theorem e_and1 {m : Nat} (hop : o.op = .binOp .and T x y T') (hx : evR R x = some (.int .i64 (m : Int))) (hy : evR R y = some (.int .i64 1)) (hm : m < 4611686018427387904) : Ev P w0 n d R H o (.int .i64 ((m % 2 : Nat) : Int)) :=
  (fun a w q => by
    unfold execOp; rw [hop]
    have e1 : (BitVec.ofInt IntKind.i64.bits (m : Int) &&& BitVec.ofInt IntKind.i64.bits 1).toNat = m % 2 := by
      show (BitVec.ofInt 64 (m : Int) &&& BitVec.ofInt 64 1).toNat = m % 2
      rw [BitVec.toNat_and, BitVec.ofInt_natCast, BitVec.toNat_ofNat, Nat.mod_eq_of_lt (by omega)]
      have : (BitVec.ofInt 64 1).toNat = 1 := by decide
      rw [this, Nat.and_one_is_mod]
    have e2 := IntWalk.i64_in ((m % 2 : Nat) : Int) (by omega)
    simp only [Sem.run_bind, q.ev hx, q.ev hy, eqGuard, binOp, Op.intBits, ne_eq, not_true_eq_false, if_false, e1, e2, Bool.not_false, if_true, Sem.run_pure, Result.andThen_ok])
theorem e_shl1 {h : Nat} (hop : o.op = .binOp .shl T x y T') (hx : evR R x = some (.int .i64 1)) (hy : evR R y = some (.int k' (h : Int))) (hh : h ≤ 60) : Ev P w0 n d R H o (.int .i64 ((2 ^ h : Nat) : Int)) :=
  (fun a w q => by
    unfold execOp; rw [hop]
    have e2 : min (h : Int).toNat IntKind.i64.bits = h := by simp [IntKind.bits]; omega
    have e3 : ¬ ((h : Int) < 0) := by omega
    have hp : 2 ^ h ≤ 2 ^ 60 := Nat.pow_le_pow_right (by omega) hh
    have e4 : (1 : Int) * 2 ^ h = ((2 ^ h : Nat) : Int) := by rw [Int.one_mul, Int.natCast_pow]; rfl
    have e5 : IntKind.i64.wrap ((2 ^ h : Nat) : Int) = ((2 ^ h : Nat) : Int) := by
      generalize 2 ^ h = p at hp
      exact IntWalk.i64_in _ (by omega)
    simp only [Sem.run_bind, q.ev hx, q.ev hy, eqGuard, binOp, Op.shift, e3, if_false, e2, e4, e5, Bool.not_false, if_true, Sem.run_pure, Result.andThen_ok])
theorem u_anyShr {k' : IntKind} (hop : o.op = .binOp .shr T x y T') (hw : want R ops o = some true) (hd : o.dst = some t) (ht : Nat.blt t n = true) (hx : evR R x = some (.int k i)) (hy : evR R y = some (.int k' j)) (hj : 0 ≤ j) (h : ∀ z, U w0 n d ((t, .int k z) :: R) H (wpL ro P ops Q rest)) : U w0 n d R H (wpL ro P ops Q (o :: rest)) := by
  have e3 : ¬ (j < 0) := by omega
  exact u_val (v := .int k (i.fdiv (2 ^ (min j.toNat k.bits)))) hw hd ht (fun a w q => by unfold execOp; rw [hop]; simp only [Sem.run_bind, q.ev hx, q.ev hy, eqGuard, binOp, Op.shift, e3, if_false, Bool.not_false, if_true, Sem.run_pure, Result.andThen_ok]) (h _)
theorem u_anyConv {T1 T2 : TypeId} {d1 : TypeDesc} {s1 s2 : Nat} {g1 g2 : Bool} {k' : IntKind} (hop : o.op = .convert T1 T2 x) [i1 : TyI P T1 d1 s1 g1] [i2 : TyI P T2 (.int k') s2 g2] (hw : want R ops o = some true) (hd : o.dst = some t) (ht : Nat.blt t n = true) (hx : evR R x = some (.int k i)) (h : ∀ z, U w0 n d ((t, .int k' z) :: R) H (wpL ro P ops Q rest)) : U w0 n d R H (wpL ro P ops Q (o :: rest)) :=
  u_val (v := .int k' (k'.wrap i)) hw hd ht (fun a w q => by
    unfold execOp; rw [hop]
    have e1 := run_underlying i1.und w
    have e2 := run_underlying i2.und w
    simp [q.ev hx, convert, e1, e2, Conv.intToInt]) (h _)
/-- a number up to 127 -/
theorem u_and127 (hop : o.op = .binOp .and T x y T') (hw : want R ops o = some true) (hd : o.dst = some t) (ht : Nat.blt t n = true) (hx : evR R x = some (.int .i64 i)) (hy : evR R y = some (.int .i64 127)) (h : ∀ z : Nat, z ≤ 127 → U w0 n d ((t, .int .i64 (z : Int)) :: R) H (wpL ro P ops Q rest)) : U w0 n d R H (wpL ro P ops Q (o :: rest)) := by
  have hle : (BitVec.ofInt IntKind.i64.bits i &&& BitVec.ofInt IntKind.i64.bits 127).toNat ≤ 127 := by
    show (BitVec.ofInt 64 i &&& BitVec.ofInt 64 127).toNat ≤ 127
    rw [BitVec.toNat_and]
    have : (BitVec.ofInt 64 127).toNat = 127 := by decide
    rw [this]; exact Nat.and_le_right
  refine u_val (v := .int .i64 (((BitVec.ofInt IntKind.i64.bits i &&& BitVec.ofInt IntKind.i64.bits 127).toNat : Nat) : Int)) hw hd ht (fun a w q => ?_) (h _ hle)
  unfold execOp; rw [hop]
  have e2 := IntWalk.i64_in ((((BitVec.ofInt IntKind.i64.bits i &&& BitVec.ofInt IntKind.i64.bits 127).toNat : Nat)) : Int) (by omega)
  simp only [Sem.run_bind, q.ev hx, q.ev hy, eqGuard, binOp, Op.intBits, ne_eq, not_true_eq_false, if_false, e2, Bool.not_false, if_true, Sem.run_pure, Result.andThen_ok]
end
theorem bit_one {m h : Nat} : m.testBit h = decide ((m >>> h) % 2 = 1) := by
  rw [Nat.testBit_eq_decide_div_mod_eq, Nat.shiftRight_eq_div_pow]
theorem bit_zero {m h : Nat} : (!m.testBit h) = decide ((m >>> h) % 2 = 0) := by
  rw [bit_one]
  have := Nat.mod_two_eq_zero_or_one (m >>> h)
  rcases this with h | h <;> simp [h]
end Go.Proofs.YtdigopgncfhiaaaDoor
/- Ice: hours that are short, both; needs that are less. -/
namespace Go.Proofs.YtdigopgncfhiaaaDoor
open Go.RowKit
open Flow (lackF sumL)
set_option linter.unusedSimpArgs false
set_option linter.unusedVariables false
set_option maxRecDepth 20000
theorem lackF_in {nd : Nat → Int} {my sm : Nat → Bool} (hb : ∀ h, -1000000 ≤ nd h ∧ nd h ≤ 1000000) : ∀ k : Nat, 0 ≤ (lackF nd my sm k).1 ∧ (lackF nd my sm k).1 ≤ 1000000 ∧ 0 ≤ (lackF nd my sm k).2 ∧ (lackF nd my sm k).2 ≤ k
  | 0 => by simp [lackF]
  | k + 1 => by
    obtain ⟨h1, h2, h3, h4⟩ := lackF_in (my := my) (sm := sm) hb k
    have := hb k
    simp only [lackF]
    refine ⟨by omega, by omega, ?_, ?_⟩ <;> split <;> omega
theorem getD_in {l : List Int} (h : ∀ x ∈ l, -1000000 ≤ x ∧ x ≤ 1000000) (i : Nat) : -1000000 ≤ l.getD i 0 ∧ l.getD i 0 ≤ 1000000 := by
  by_cases hi : i < l.length
  · rw [Flow.getD_lt hi]; exact h _ (List.getElem_mem hi)
  · rw [List.getD_eq_getElem?_getD, List.getElem?_eq_none (by omega)]; simp
set_option maxHeartbeats 1000000 in
theorem rlacks_any (nd : List Int) (A : Option Addr) (c : Nat) (my : List Bool) (B : Option Addr) (d m : Nat) (w : World) (hn : SlAt encI 1 w A nd) (hm : SlAt encBl 1 w B my) (hl : nd.length ≤ my.length) (hl2 : nd.length ≤ 20) (hb : ∀ x ∈ nd, -1000000 ≤ x ∧ x ≤ 1000000) (hmb : m < 1000000) :
    Gv Tryd.prog 97 [.slice A nd.length c, .slice B my.length d, .int .i64 (m : Int)] w (.int .i64 (lackF (fun h => nd.getD h 0) (fun h => my.getD h false) m.testBit nd.length).1) := by
  unfold Gv
  (refine ret_enter (n := 38) Tryd.func97 rfl rfl rfl ?_)
  (repeat' (first | ((with_reducible refine isOps ?_); first | refine u_assign rfl rfl rfl rfl rfl ?_) | (with_reducible first | refine u_seq ?_ | refine u_region ?_ | refine u_nil ?_ | refine u_then_n ?_ | refine u_block ?_)))
  refine u_loopP (ι := Nat) [0, 1, 2] rfl (fun h => h ≤ nd.length) (fun h => [(9, .int .i64 (h : Int)), (7, .int .i64 (lackF (fun h => nd.getD h 0) (fun h => my.getD h false) m.testBit h).1), (8, .int .i64 (lackF (fun h => nd.getD h 0) (fun h => my.getD h false) m.testBit h).2)]) (fun _ => []) (fun h => nd.length - h) 0 (Nat.zero_le _) (by (first | exact fun _ _ h => lk_nil h | (repeat (first | exact (fun _ _ h => lk_nil h) | (refine lk_sub rfl ?_))))) (by (repeat (first | exact Out.nil _ | (refine Out.cons (by (repeat (first | exact Take.here _ _ | apply Take.there))) ?_)))) ?_
  rintro k hh
  simp only [zipR, List.cons_append, List.nil_append]
  by_cases hlt : k < nd.length
  · have hin := lackF_in (nd := fun h => nd.getD h 0) (my := fun h => my.getD h false) (sm := m.testBit) (getD_in hb) k
    have hbx := getD_in hb k
    obtain ⟨b1, o1, rfl, _, _⟩ := hn.at_ hlt
    obtain ⟨b2, o2, rfl, _, _⟩ := hm.at_ (Nat.lt_of_lt_of_le hlt hl)
    have : InS w b1 o1 encI 1 nd := ⟨hn⟩
    have : InS w b2 o2 encBl 1 my := ⟨hm⟩
    have : GetI nd k (nd.getD k 0) := ⟨by rw [Flow.getD_lt hlt]; simp⟩
    have e1 : lackF (fun h => nd.getD h 0) (fun h => my.getD h false) m.testBit (k + 1) = (max (lackF (fun h => nd.getD h 0) (fun h => my.getD h false) m.testBit k).1 (nd.getD k 0 - (lackF (fun h => nd.getD h 0) (fun h => my.getD h false) m.testBit k).2), if (my.getD k false && !m.testBit k) = true then (lackF (fun h => nd.getD h 0) (fun h => my.getD h false) m.testBit k).2 + 1 else (lackF (fun h => nd.getD h 0) (fun h => my.getD h false) m.testBit k).2) := rfl
    have hg : my[k]? = some (my.getD k false) := by rw [Flow.getD_lt (by omega)]; simp
    rw [bit_zero] at e1
    generalize lackF (fun h => nd.getD h 0) (fun h => my.getD h false) m.testBit k = p at *
    generalize my.getD k false = z at *
    generalize nd.getD k 0 = x at *
    have : GetI my k z := ⟨hg⟩
    cases z
    · simp only [Bool.false_and, Bool.false_eq_true, if_false] at e1
      (repeat' (first | ((with_reducible refine isOps ?_); first | refine u_move rfl rfl rfl rfl rfl ?_ | refine u_assign rfl rfl rfl rfl rfl ?_ | (refine x_load rfl rfl rfl rfl rfl ?_; refine ⟨_, rfl, ?_⟩) | refine u_pick rfl rfl rfl rfl rfl rfl ?_ | refine u_not_wanted rfl rfl rfl ?_ | (refine u_cmp rfl rfl rfl rfl rfl rfl rfl (fun h => ?_) (fun h => ?_) <;> (dsimp only [cmpP] at h; (try (exfalso; omega)))) | refine u_add1 rfl rfl rfl rfl rfl rfl (by omega) ?_ | refine u_sub rfl rfl rfl rfl rfl rfl (IntWalk.i64_in _ (by omega)) ?_ | refine u_index rfl rfl rfl rfl rfl rfl rfl (by omega) ?_ | refine u_len rfl rfl rfl rfl rfl ?_ | refine u_max rfl rfl rfl rfl rfl rfl ?_) | (with_reducible first | refine u_seq ?_ | refine u_region ?_ | refine u_nil ?_ | refine u_then_n ?_ | refine u_skip ?_ | refine u_block ?_ | refine u_in_n ?_) | ((with_reducible refine u_cond_t ?_ ?_); (· exact rfl)) | ((with_reducible refine u_cond_f ?_ ?_); (· exact rfl))))
      exact u_again (k + 1) (by omega) (by omega) (by rw [e1]; (first | exact fun _ _ h => lk_nil h | (repeat (first | exact (fun _ _ h => lk_nil h) | (refine lk_sub rfl ?_))))) (by (repeat (first | exact Out.nil _ | (refine Out.cons (by (repeat (first | exact Take.here _ _ | apply Take.there))) ?_))))
    · simp only [Bool.true_and, decide_eq_true_eq] at e1
      (repeat' (first | ((with_reducible refine isOps ?_); first | refine u_move rfl rfl rfl rfl rfl ?_ | refine u_assign rfl rfl rfl rfl rfl ?_ | (refine x_load rfl rfl rfl rfl rfl ?_; refine ⟨_, rfl, ?_⟩) | refine u_pick rfl rfl rfl rfl rfl rfl ?_ | (refine u_cmp rfl rfl rfl rfl rfl rfl rfl (fun h => ?_) (fun h => ?_) <;> (dsimp only [cmpP] at h; (try (exfalso; omega)))) | refine u_val rfl rfl rfl (e_shr rfl rfl rfl (by omega)) ?_ | refine u_val rfl rfl rfl (e_and1 rfl rfl rfl (by have := Nat.shiftRight_le m k; omega)) ?_ | refine u_add1 rfl rfl rfl rfl rfl rfl (by omega) ?_ | refine u_add rfl rfl rfl rfl rfl rfl (IntWalk.i64_in _ (by omega)) ?_ | refine u_sub rfl rfl rfl rfl rfl rfl (IntWalk.i64_in _ (by omega)) ?_ | refine u_index rfl rfl rfl rfl rfl rfl rfl (by omega) ?_ | refine u_len rfl rfl rfl rfl rfl ?_ | refine u_max rfl rfl rfl rfl rfl rfl ?_) | (with_reducible first | refine u_seq ?_ | refine u_region ?_ | refine u_nil ?_ | refine u_then_n ?_ | refine u_skip ?_ | refine u_block ?_ | refine u_in_n ?_) | ((with_reducible refine u_cond_t ?_ ?_); (· exact rfl)) | ((with_reducible refine u_cond_f ?_ ?_); (· exact rfl))))
      · exact u_again (k + 1) (by omega) (by omega) (by rw [e1, if_pos (by omega)]; (first | exact fun _ _ h => lk_nil h | (repeat (first | exact (fun _ _ h => lk_nil h) | (refine lk_sub rfl ?_))))) (by (repeat (first | exact Out.nil _ | (refine Out.cons (by (repeat (first | exact Take.here _ _ | apply Take.there))) ?_))))
      · exact u_again (k + 1) (by omega) (by omega) (by rw [e1, if_neg (by omega)]; (first | exact fun _ _ h => lk_nil h | (repeat (first | exact (fun _ _ h => lk_nil h) | (refine lk_sub rfl ?_))))) (by (repeat (first | exact Out.nil _ | (refine Out.cons (by (repeat (first | exact Take.here _ _ | apply Take.there))) ?_))))
  · obtain rfl : k = nd.length := by omega
    (repeat' (first | ((with_reducible refine isOps ?_); first | refine u_move rfl rfl rfl rfl rfl ?_ | refine u_assign rfl rfl rfl rfl rfl ?_ | (refine u_cmp rfl rfl rfl rfl rfl rfl rfl (fun h => ?_) (fun h => ?_) <;> (dsimp only [cmpP] at h; (try (exfalso; omega)))) | refine u_len rfl rfl rfl rfl rfl ?_) | (with_reducible first | refine u_seq ?_ | refine u_region ?_ | refine u_nil ?_ | refine u_then_n ?_ | refine u_ret ?_ | refine u_exit ?_ | refine u_in_same ?_ | refine u_then_e ?_) | ((with_reducible refine u_cond_f ?_ ?_); (· exact rfl))))
    exact u_done (by (exact ResL.cons (by exact Res1.tmp rfl) ResL.nil)) () trivial rfl (fun _ h => h.sub (by (repeat (first | exact Out.nil _ | (refine Out.cons (by (repeat (first | exact Take.here _ _ | apply Take.there))) ?_)))))
def lackO (nds : List (List Int)) (mys : List (List Bool)) (m i k : Nat) : Int := (lackF (fun h => (nds.getD i []).getD h 0) (fun h => (mys.getD i []).getD h false) m.testBit k).1
def handS (hs : List Int) (m k : Nat) : Int := sumL (List.range k) (fun h => if m.testBit h then hs.getD h 0 else 0)
def shortR (nds : List (List Int)) (mys : List (List Bool)) (hs : List Int) (m : Nat) : Int := sumL (List.range nds.length) (fun i => lackO nds mys m i (nds.getD i []).length) - handS hs m hs.length
theorem sumL_in {f : Nat → Int} {u : Int} (h : ∀ i, 0 ≤ f i ∧ f i ≤ u) : ∀ k : Nat, 0 ≤ sumL (List.range k) f ∧ sumL (List.range k) f ≤ u * k
  | 0 => by simp [sumL]
  | k + 1 => by
    obtain ⟨h1, h2⟩ := sumL_in h k
    obtain ⟨h3, h4⟩ := h k
    rw [Flow.sumL_range_succ, Int.natCast_add, Int.mul_add]
    exact ⟨by omega, by omega⟩
theorem getD_map {α β : Type} {f : α → β} {l : List α} {i : Nat} {x : α} {d : β} (h : l[i]? = some x) : (l.map f).getD i d = f x := by
  rw [List.getD_eq_getElem?_getD, List.getElem?_map, h]; rfl
/-- rows of numbers that are not great, and rows of hours at least as long -/
structure RowsOk (L : List (SlOf Int)) (M : List (SlOf Bool)) (hs : List Int) : Prop where
  len : L.length ≤ 20
  len2 : M.length = L.length
  row : ∀ (i : Nat) (s : SlOf Int) (t : SlOf Bool), L[i]? = some s → M[i]? = some t → s.xs.length ≤ t.xs.length
  rlen : ∀ s ∈ L, s.xs.length ≤ 12
  big : ∀ s ∈ L, ∀ x ∈ s.xs, -1000000 ≤ x ∧ x ≤ 1000000
  hlen : hs.length ≤ 12
  hbig : ∀ x ∈ hs, 0 ≤ x ∧ x ≤ 1000
theorem RowsOk.big2 {L : List (SlOf Int)} {M : List (SlOf Bool)} {hs : List Int} (h : RowsOk L M hs) (i k : Nat) : -1000000 ≤ ((L.map (·.xs)).getD i []).getD k 0 ∧ ((L.map (·.xs)).getD i []).getD k 0 ≤ 1000000 := by
  by_cases hi : i < L.length
  · rw [getD_map (List.getElem?_eq_getElem hi)]
    exact getD_in (h.big _ (List.getElem_mem hi)) k
  · have e : (L.map (·.xs)).getD i [] = [] := by rw [List.getD_eq_getElem?_getD, List.getElem?_eq_none (by rw [List.length_map]; omega)]; rfl
    rw [e]; simp
theorem RowsOk.lackO_in {L : List (SlOf Int)} {M : List (SlOf Bool)} {hs : List Int} (h : RowsOk L M hs) (m i k : Nat) : 0 ≤ lackO (L.map (·.xs)) (M.map (·.xs)) m i k ∧ lackO (L.map (·.xs)) (M.map (·.xs)) m i k ≤ 1000000 := by
  have := lackF_in (nd := fun h => ((L.map (·.xs)).getD i []).getD h 0) (my := fun h => ((M.map (·.xs)).getD i []).getD h false) (sm := m.testBit) (h.big2 i) k
  exact ⟨this.1, this.2.1⟩
theorem RowsOk.hand_in {L : List (SlOf Int)} {M : List (SlOf Bool)} {hs : List Int} (h : RowsOk L M hs) (m k : Nat) : 0 ≤ (if m.testBit k then hs.getD k 0 else 0) ∧ (if m.testBit k then hs.getD k 0 else 0) ≤ 1000 := by
  split
  · by_cases hi : k < hs.length
    · rw [Flow.getD_lt hi]; exact h.hbig _ (List.getElem_mem hi)
    · rw [List.getD_eq_getElem?_getD, List.getElem?_eq_none (by omega)]; simp
  · omega
set_option maxHeartbeats 2000000 in
theorem rshort_any (L : List (SlOf Int)) (A : Option Addr) (ca : Nat) (M : List (SlOf Bool)) (B : Option Addr) (cb : Nat) (hs : List Int) (C : Option Addr) (cc m : Nat) (w : World) (hL : TabAt encI 1 w A L) (hM : TabAt encBl 1 w B M) (hh : SlAt encI 1 w C hs) (hok : RowsOk L M hs) (hmb : m < 1000000) :
    Gv Tryd.prog 52 [.slice A L.length ca, .slice B M.length cb, .slice C hs.length cc, .int .i64 (m : Int)] w (.bool (decide (0 < shortR (L.map (·.xs)) (M.map (·.xs)) hs m))) := by
  have n1 := hok.len; have n2 := hok.len2; have n3 := hok.hlen
  have hLp := hL.p; have hMp := hM.p
  have hlk := fun W (hb : Below w.heap.size w W) s t (hs : s ∈ L) (ht : t ∈ M) (hl : s.xs.length ≤ t.xs.length) => rlacks_any s.xs s.A s.c t.xs t.A t.c m W ((hL.rows s hs).below hb) ((hM.rows t ht).below hb) hl (by have := hok.rlen s hs; omega) (hok.big s hs) hmb
  unfold Gv
  (refine ret_enter (n := 49) Tryd.func52 rfl rfl rfl ?_)
  (repeat' (first | ((with_reducible refine isOps ?_); first | refine u_assign rfl rfl rfl rfl rfl ?_) | (with_reducible first | refine u_seq ?_ | refine u_region ?_ | refine u_nil ?_ | refine u_then_n ?_ | refine u_block ?_)))
  refine u_loopP (ι := Nat) [0, 1, 2, 3] rfl (fun i => i ≤ L.length) (fun i => [(10, .int .i64 (i : Int)), (9, .int .i64 (sumL (List.range i) (fun i => lackO (L.map (·.xs)) (M.map (·.xs)) m i ((L.map (·.xs)).getD i []).length)))]) (fun _ => []) (fun i => L.length - i) 0 (Nat.zero_le _) (by (first | exact fun _ _ h => lk_nil h | (repeat (first | exact (fun _ _ h => lk_nil h) | (refine lk_sub rfl ?_))))) (by (repeat (first | exact Out.nil _ | (refine Out.cons (by (repeat (first | exact Take.here _ _ | apply Take.there))) ?_)))) ?_
  rintro i hi
  simp only [zipR, List.cons_append, List.nil_append]
  by_cases hlt : i < L.length
  · obtain ⟨s, hs1⟩ : ∃ s, L[i]? = some s := ⟨_, List.getElem?_eq_getElem hlt⟩
    obtain ⟨t, ht1⟩ : ∃ t, M[i]? = some t := ⟨_, List.getElem?_eq_getElem (by omega)⟩
    obtain ⟨b1, o1, rfl, _, _⟩ := hLp.at_ hlt
    obtain ⟨b2, o2, rfl, _, _⟩ := hMp.at_ (i := i) (by omega)
    have : InS w b1 o1 encOf 1 L := ⟨hLp⟩
    have : InS w b2 o2 encOf 1 M := ⟨hMp⟩
    have : GetI L i s := ⟨hs1⟩
    have : GetI M i t := ⟨ht1⟩
    have hsum := sumL_in (fun i => hok.lackO_in m i ((L.map (·.xs)).getD i []).length) i
    have e2 := Flow.sumL_range_succ (fun i => lackO (L.map (·.xs)) (M.map (·.xs)) m i ((L.map (·.xs)).getD i []).length) i
    have e3 : lackO (L.map (·.xs)) (M.map (·.xs)) m i ((L.map (·.xs)).getD i []).length = (lackF (fun h => s.xs.getD h 0) (fun h => t.xs.getD h false) m.testBit s.xs.length).1 := by
      unfold lackO
      rw [getD_map hs1, getD_map ht1]
    have e4 := hok.lackO_in m i ((L.map (·.xs)).getD i []).length
    rw [e3] at e2 e4
    have hk := hlk _ (Below.refl _ _) s t (List.mem_of_getElem? hs1) (List.mem_of_getElem? ht1) (hok.row i s t hs1 ht1)
    have hk := fun W hb => hlk W hb s t (List.mem_of_getElem? hs1) (List.mem_of_getElem? ht1) (hok.row i s t hs1 ht1)
    generalize (lackF (fun h => s.xs.getD h 0) (fun h => t.xs.getD h false) m.testBit s.xs.length).1 = v at *
    generalize sumL (List.range i) (fun i => lackO (L.map (·.xs)) (M.map (·.xs)) m i ((L.map (·.xs)).getD i []).length) = p at *
    (repeat' (first | ((with_reducible refine isOps ?_); first | refine u_move rfl rfl rfl rfl rfl ?_ | (refine u_cmp rfl rfl rfl rfl rfl rfl rfl (fun h => ?_) (fun h => ?_) <;> (dsimp only [cmpP] at h; (try (exfalso; omega)))) | refine u_len rfl rfl rfl rfl rfl ?_) | (with_reducible first | refine u_seq ?_ | refine u_region ?_ | refine u_nil ?_ | refine u_then_n ?_ | refine u_skip ?_ | refine u_block ?_) | ((with_reducible refine u_cond_t ?_ ?_); (· exact rfl))))
    (refine u_quiet (by kernel_rfl) (by kernel_rfl) (by kernel_rfl) ?_)
    (repeat' (first | ((with_reducible refine isOpsQ ?_); first | refine q_val (e_move rfl rfl) rfl rfl rfl ?_ | refine q_val (e_load' rfl rfl (by exact rfl)) rfl rfl rfl ?_ | refine q_val (e_assign rfl rfl) rfl rfl rfl ?_ | refine q_gives rfl rfl rfl rfl rfl rfl (fun _ _ q => hk _ q.below) ?_ | refine q_val (e_add rfl rfl rfl (IntWalk.i64_in _ (by omega))) rfl rfl rfl ?_ | refine q_val (e_index rfl rfl rfl rfl (by omega)) rfl rfl rfl ?_) | (with_reducible refine q_nil ?_)))
    (repeat' (first | ((with_reducible refine isOps ?_); first | refine u_move rfl rfl rfl rfl rfl ?_ | refine u_assign rfl rfl rfl rfl rfl ?_ | refine u_add1 rfl rfl rfl rfl rfl rfl (by omega) ?_) | (with_reducible first | refine u_region ?_ | refine u_nil ?_ | refine u_then_n ?_ | refine u_in_n ?_)))
    exact u_again (i + 1) (by omega) (by omega) (by rw [e2]; (first | exact fun _ _ h => lk_nil h | (repeat (first | exact (fun _ _ h => lk_nil h) | (refine lk_sub rfl ?_))))) (by (repeat (first | exact Out.nil _ | (refine Out.cons (by (repeat (first | exact Take.here _ _ | apply Take.there))) ?_))))
  obtain rfl : i = L.length := by omega
  (repeat' (first | ((with_reducible refine isOps ?_); first | refine u_move rfl rfl rfl rfl rfl ?_ | refine u_assign rfl rfl rfl rfl rfl ?_ | (refine u_cmp rfl rfl rfl rfl rfl rfl rfl (fun h => ?_) (fun h => ?_) <;> (dsimp only [cmpP] at h; (try (exfalso; omega)))) | refine u_len rfl rfl rfl rfl rfl ?_) | (with_reducible first | refine u_seq ?_ | refine u_region ?_ | refine u_nil ?_ | refine u_then_n ?_ | refine u_block ?_ | refine u_exit ?_ | refine u_in_same ?_ | refine u_then_e ?_) | ((with_reducible refine u_cond_f ?_ ?_); (· exact rfl))))
  have hsum := sumL_in (fun i => hok.lackO_in m i ((L.map (·.xs)).getD i []).length) L.length
  have hfin : shortR (L.map (·.xs)) (M.map (·.xs)) hs m = sumL (List.range L.length) (fun i => lackO (L.map (·.xs)) (M.map (·.xs)) m i ((L.map (·.xs)).getD i []).length) - handS hs m hs.length := by unfold shortR; rw [List.length_map]
  rw [hfin]
  generalize sumL (List.range L.length) (fun i => lackO (L.map (·.xs)) (M.map (·.xs)) m i ((L.map (·.xs)).getD i []).length) = p at *
  refine u_loopP (ι := Nat) [2, 3] rfl (fun h => h ≤ hs.length) (fun h => [(11, .int .i64 (h : Int)), (9, .int .i64 (p - handS hs m h))]) (fun _ => []) (fun h => hs.length - h) 0 (Nat.zero_le _) (by rw [show handS hs m 0 = 0 from rfl, Int.sub_zero]; (first | exact fun _ _ h => lk_nil h | (repeat (first | exact (fun _ _ h => lk_nil h) | (refine lk_sub rfl ?_))))) (by (repeat (first | exact Out.nil _ | (refine Out.cons (by (repeat (first | exact Take.here _ _ | apply Take.there))) ?_)))) ?_
  rintro k hk
  simp only [zipR, List.cons_append, List.nil_append]
  by_cases hlt : k < hs.length
  · obtain ⟨b1, o1, rfl, _, _⟩ := hh.at_ hlt
    have : InS w b1 o1 encI 1 hs := ⟨hh⟩
    have : GetI hs k (hs.getD k 0) := ⟨by rw [Flow.getD_lt hlt]; simp⟩
    have hsum2 : 0 ≤ handS hs m k ∧ handS hs m k ≤ 1000 * k := sumL_in (hok.hand_in m) k
    have e2 : handS hs m (k + 1) = handS hs m k + (if m.testBit k then hs.getD k 0 else 0) := Flow.sumL_range_succ _ k
    have e4 := hok.hand_in m k
    have hx : 0 ≤ hs.getD k 0 ∧ hs.getD k 0 ≤ 1000 := by rw [Flow.getD_lt hlt]; exact hok.hbig _ (List.getElem_mem hlt)
    rw [bit_one] at e2 e4
    have hb2 := Nat.shiftRight_le m k
    generalize hs.getD k 0 = x at *
    generalize handS hs m k = r at *
    (repeat' (first | ((with_reducible refine isOps ?_); first | refine u_move rfl rfl rfl rfl rfl ?_ | refine u_assign rfl rfl rfl rfl rfl ?_ | (refine x_load rfl rfl rfl rfl rfl ?_; refine ⟨_, rfl, ?_⟩) | (refine u_cmp rfl rfl rfl rfl rfl rfl rfl (fun h => ?_) (fun h => ?_) <;> (dsimp only [cmpP] at h; (try (exfalso; omega)))) | refine u_val rfl rfl rfl (e_shr rfl rfl rfl (by omega)) ?_ | refine u_val rfl rfl rfl (e_and1 rfl rfl rfl (by omega)) ?_ | refine u_add1 rfl rfl rfl rfl rfl rfl (by omega) ?_ | refine u_sub rfl rfl rfl rfl rfl rfl (IntWalk.i64_in _ (by omega)) ?_ | refine u_index rfl rfl rfl rfl rfl rfl rfl (by omega) ?_ | refine u_len rfl rfl rfl rfl rfl ?_) | (with_reducible first | refine u_seq ?_ | refine u_region ?_ | refine u_nil ?_ | refine u_then_n ?_ | refine u_skip ?_ | refine u_block ?_ | refine u_in_n ?_) | ((with_reducible refine u_cond_t ?_ ?_); (· exact rfl)) | ((with_reducible refine u_cond_f ?_ ?_); (· exact rfl))))
    · exact u_again (k + 1) (by omega) (by omega) (by rw [e2, if_pos (decide_eq_true (by omega)), ← Int.sub_sub]; (first | exact fun _ _ h => lk_nil h | (repeat (first | exact (fun _ _ h => lk_nil h) | (refine lk_sub rfl ?_))))) (by (repeat (first | exact Out.nil _ | (refine Out.cons (by (repeat (first | exact Take.here _ _ | apply Take.there))) ?_))))
    · exact u_again (k + 1) (by omega) (by omega) (by rw [e2, if_neg (by rw [decide_eq_true_iff]; omega), Int.add_zero]; (first | exact fun _ _ h => lk_nil h | (repeat (first | exact (fun _ _ h => lk_nil h) | (refine lk_sub rfl ?_))))) (by (repeat (first | exact Out.nil _ | (refine Out.cons (by (repeat (first | exact Take.here _ _ | apply Take.there))) ?_))))
  · obtain rfl : k = hs.length := by omega
    have hsum2 : 0 ≤ handS hs m hs.length ∧ handS hs m hs.length ≤ 1000 * hs.length := sumL_in (hok.hand_in m) hs.length
    (repeat' (first | ((with_reducible refine isOps ?_); first | refine u_move rfl rfl rfl rfl rfl ?_ | refine u_assign rfl rfl rfl rfl rfl ?_ | (refine u_cmp rfl rfl rfl rfl rfl rfl rfl (fun h => ?_) (fun h => ?_) <;> (dsimp only [cmpP] at h; (try (exfalso; omega)))) | refine u_len rfl rfl rfl rfl rfl ?_) | (with_reducible first | refine u_seq ?_ | refine u_region ?_ | refine u_nil ?_ | refine u_then_n ?_ | refine u_ret ?_ | refine u_exit ?_ | refine u_in_same ?_ | refine u_then_e ?_) | ((with_reducible refine u_cond_f ?_ ?_); (· exact rfl))))
    all_goals exact u_done (by (exact ResL.cons (by exact Res1.tmp rfl) ResL.nil)) () trivial (by simp [resV]; omega) (fun _ h => h.sub (by (repeat (first | exact Out.nil _ | (refine Out.cons (by (repeat (first | exact Take.here _ _ | apply Take.there))) ?_)))))
end Go.Proofs.YtdigopgncfhiaaaDoor
