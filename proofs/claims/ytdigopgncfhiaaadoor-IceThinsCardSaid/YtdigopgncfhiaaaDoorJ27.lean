/- Ice: water, by the reference. -/
import Derived.Test.YtdigopgncfhiaaaDoorJ24
namespace Go.Proofs.YtdigopgncfhiaaaDoor
open Go.RowKit
set_option linter.unusedSimpArgs false
set_option linter.unusedVariables false
set_option maxRecDepth 20000
set_option maxHeartbeats 4000000 in
theorem rWater2_any (c : Cov) (A : Option Addr) (ca : Nat) (B : Option Addr) (cb : Nat) (C : Option Addr) (cc : Nat) (pl : List Sli) (P : Option Addr) (cp : Nat) (w : World) (hc : CovAt w c A B C) (hs : Small c) (hp : PlanAt w P pl) (hl : pl.length ≤ 12) (hrl : ∀ s ∈ pl, s.xs.length ≤ 20) :
    Gv Tryd.prog 33 [vCov c A ca B cb C cc, .slice P pl.length cp] w (.tuple #[vSp (waterT c pl), .int .i64 (errK c pl)]) := by
  have h1 := fun W (hb : Below w.heap.size w W) => rcheck2_any c A ca B cb C cc W (hc.below hb) hs
  have h2 := fun W (hb : Below w.heap.size w W) => rvalid2_any c A ca B cb C cc pl P cp W (hc.below hb) (hp.below hb) hs hl hrl
  unfold vCov at h1 h2
  unfold Gv vCov waterT errK vSp
  by_cases h0 : errI c = 0
  · rw [if_pos h0]
    rw [h0] at h1
    have hf := fine_of h0
    have hv := errI_valid h0
    cases hpl : planOk c pl
    · rw [hpl] at h2
      unfold cellsCov at h1 h2 ⊢
      (refine ret_enter (n := 68) Tryd.func33 rfl rfl rfl ?_)
      (repeat' (first | ((with_reducible refine isOps ?_); first | refine u_move rfl rfl rfl rfl rfl ?_ | refine u_assign rfl rfl rfl rfl rfl ?_ | (refine x_load rfl rfl rfl rfl rfl ?_; refine ⟨_, rfl, ?_⟩) | refine u_field rfl rfl rfl rfl rfl ?_ | (refine u_cmp rfl rfl rfl rfl rfl rfl rfl (fun h => ?_) (fun h => ?_) <;> (dsimp only [cmpP] at h; (try (exfalso; omega)))) | refine u_gives rfl rfl rfl rfl rfl rfl (fun _ _ q => h1 _ q.below) ?_ | refine u_gives rfl rfl rfl rfl rfl rfl (fun _ _ q => h2 _ q.below) ?_ | refine u_not rfl rfl rfl rfl rfl ?_ | refine u_add1 rfl rfl rfl rfl rfl rfl (by omega) ?_ | refine u_add rfl rfl rfl rfl rfl rfl (IntWalk.i64_in _ (by omega)) ?_ | refine u_mul rfl rfl rfl rfl rfl rfl (IntWalk.i64_in _ (by omega)) ?_ | refine u_index rfl rfl rfl rfl rfl rfl rfl (by omega) ?_ | refine u_indexA rfl rfl rfl rfl rfl rfl rfl (by first | decide | omega) ?_ | refine u_len rfl rfl rfl rfl rfl ?_ | (refine x_store rfl rfl rfl rfl rfl ?_; refine And.intro rfl (And.intro (by first | decide | exact Nat.le_of_ble_eq_true rfl | (simp; omega)) ⟨_, rfl, ?_⟩)) | (refine u_alloc rfl rfl rfl rfl (fun b => ?_)) | (refine u_box rfl rfl rfl rfl rfl rfl (fun b => ?_)) | (refine x_build rfl rfl rfl rfl rfl ?_; refine ⟨_, rfl, ?_⟩)) | (with_reducible first | refine u_seq ?_ | refine u_region ?_ | refine u_nil ?_ | refine u_then_n ?_ | refine u_ret ?_ | refine u_skip ?_ | refine u_then_r ?_ | refine u_end ?_ | refine u_block ?_ | refine u_exit ?_ | refine u_in_n ?_ | refine u_in_r ?_ | refine u_in_same ?_ | refine u_then_e ?_) | ((with_reducible refine u_in_other ?_ ?_); (· exact rfl)) | ((with_reducible refine u_cond_t ?_ ?_); (· exact rfl)) | ((with_reducible refine u_cond_f ?_ ?_); (· exact rfl))))
      all_goals exact u_done (by (exact ResL.cons (by exact res1c rfl (by exact rfl)) (ResL.cons (by exact Res1.tmp rfl) ResL.nil))) () trivial rfl (fun _ h => h.sub (by (repeat (first | exact Out.nil _ | (refine Out.cons (by (repeat (first | exact Take.here _ _ | apply Take.there))) ?_)))))
    · rw [hpl] at h2
      rw [if_pos rfl, if_pos rfl]
      have hin := fun x hx => cat_in (c := c) (pl := pl) hpl (x := x) hx
      have hbt := hf.beds
      have h3 := hs.t
      have hrt := hf.rate
      simp only [inB_iff] at hrt
      have hpp := hp.p
      have htt := hc.t
      have hcl := catN_len hrl
      have hsub : ∀ h, h ≤ pl.length → ∀ x, x ∈ catN pl h → x ∈ catN pl pl.length := fun h hh x hx => by
        unfold catN at hx ⊢
        rw [List.take_length, List.mem_flatMap]
        rw [List.mem_flatMap] at hx
        obtain ⟨s, h1, h2⟩ := hx
        exact ⟨s, List.mem_of_mem_take h1, h2⟩
      unfold cellsCov at h1 h2 ⊢
      (refine ret_enter (n := 68) Tryd.func33 rfl rfl rfl ?_)
      (repeat' (first | ((with_reducible refine isOps ?_); first | refine u_move rfl rfl rfl rfl rfl ?_ | refine u_assign rfl rfl rfl rfl rfl ?_ | (refine x_load rfl rfl rfl rfl rfl ?_; refine ⟨_, rfl, ?_⟩) | refine u_field rfl rfl rfl rfl rfl ?_ | (refine u_cmp rfl rfl rfl rfl rfl rfl rfl (fun h => ?_) (fun h => ?_) <;> (dsimp only [cmpP] at h; (try (exfalso; omega)))) | refine u_gives rfl rfl rfl rfl rfl rfl (fun _ _ q => h1 _ q.below) ?_ | refine u_gives rfl rfl rfl rfl rfl rfl (fun _ _ q => h2 _ q.below) ?_ | refine u_not rfl rfl rfl rfl rfl ?_ | refine u_add1 rfl rfl rfl rfl rfl rfl (by omega) ?_ | refine u_add rfl rfl rfl rfl rfl rfl (IntWalk.i64_in _ (by omega)) ?_ | refine u_mul rfl rfl rfl rfl rfl rfl (IntWalk.i64_in _ (by omega)) ?_ | refine u_index rfl rfl rfl rfl rfl rfl rfl (by omega) ?_ | refine u_indexA rfl rfl rfl rfl rfl rfl rfl (by first | decide | omega) ?_ | refine u_len rfl rfl rfl rfl rfl ?_ | (refine x_store rfl rfl rfl rfl rfl ?_; refine And.intro rfl (And.intro (by first | decide | exact Nat.le_of_ble_eq_true rfl | (simp; omega)) ⟨_, rfl, ?_⟩)) | (refine u_alloc rfl rfl rfl rfl (fun b => ?_)) | (refine u_box rfl rfl rfl rfl rfl rfl (fun b => ?_)) | (refine x_build rfl rfl rfl rfl rfl ?_; refine ⟨_, rfl, ?_⟩)) | (with_reducible first | refine u_seq ?_ | refine u_region ?_ | refine u_nil ?_ | refine u_then_n ?_ | refine u_ret ?_ | refine u_skip ?_ | refine u_then_r ?_ | refine u_end ?_ | refine u_block ?_ | refine u_exit ?_ | refine u_in_n ?_ | refine u_in_r ?_ | refine u_in_same ?_ | refine u_then_e ?_) | ((with_reducible refine u_in_other ?_ ?_); (· exact rfl)) | ((with_reducible refine u_cond_t ?_ ?_); (· exact rfl)) | ((with_reducible refine u_cond_f ?_ ?_); (· exact rfl))))
      rename_i b2 b4
      refine u_loopP (ι := Nat) [1, 2, 4, 7] rfl (fun y => y ≤ pl.length) (fun y => [(8, .int .i64 (y : Int))]) (fun y => [.blk b (encSp (waterF c (catN pl y))), .blk b4 [.int .i64 0, .int .i64 0], .blk b2 (cellsCov c A ca B cb C cc)]) (fun y => pl.length - y) 0 (Nat.zero_le _) (by (first | exact fun _ _ h => lk_nil h | (repeat (first | exact (fun _ _ h => lk_nil h) | (refine lk_sub rfl ?_))))) (by (repeat (first | exact Out.nil _ | (refine Out.cons (by (repeat (first | exact Take.here _ _ | apply Take.there))) ?_)))) ?_
      rintro y hy
      simp only [zipR, cellsCov, List.cons_append, List.nil_append]
      by_cases hlt : y < pl.length
      · obtain ⟨s, hsk⟩ : ∃ s, pl[y]? = some s := ⟨_, List.getElem?_eq_getElem hlt⟩
        have hsm := List.mem_of_getElem? hsk
        have hrow := hp.rows s hsm
        have hsl := hrl s hsm
        have hcs := catN_succ hsk
        have hcl0 := hcl y hy
        obtain ⟨pb, po, rfl, hpb, _⟩ := hpp.at_ hlt
        have : InS w pb po encSli 1 pl := ⟨hpp⟩
        obtain ⟨sA, xs, sc⟩ := s
        simp only at hrow hsl hcs
        have : GetI pl y ⟨sA, xs, sc⟩ := ⟨hsk⟩
        have hmem : ∀ x ∈ catN pl y ++ xs, ∃ k : Nat, x = (k : Int) ∧ k < c.t.length := fun x hx => by
          rw [← hcs] at hx
          obtain ⟨j, e, hj⟩ := hin x (hsub (y + 1) (by omega) x hx)
          exact ⟨j, e, by omega⟩
        (repeat' (first | ((with_reducible refine isOps ?_); first | refine u_move rfl rfl rfl rfl rfl ?_ | refine u_assign rfl rfl rfl rfl rfl ?_ | (refine x_load rfl rfl rfl rfl rfl ?_; refine ⟨_, rfl, ?_⟩) | refine u_field rfl rfl rfl rfl rfl ?_ | (refine u_cmp rfl rfl rfl rfl rfl rfl rfl (fun h => ?_) (fun h => ?_) <;> (dsimp only [cmpP] at h; (try (exfalso; omega)))) | refine u_not rfl rfl rfl rfl rfl ?_ | refine u_add1 rfl rfl rfl rfl rfl rfl (by omega) ?_ | refine u_add rfl rfl rfl rfl rfl rfl (IntWalk.i64_in _ (by omega)) ?_ | refine u_mul rfl rfl rfl rfl rfl rfl (IntWalk.i64_in _ (by omega)) ?_ | refine u_index rfl rfl rfl rfl rfl rfl rfl (by omega) ?_ | refine u_indexA rfl rfl rfl rfl rfl rfl rfl (by first | decide | omega) ?_ | refine u_len rfl rfl rfl rfl rfl ?_ | (refine x_store rfl rfl rfl rfl rfl ?_; refine And.intro rfl (And.intro (by first | decide | exact Nat.le_of_ble_eq_true rfl | (simp; omega)) ⟨_, rfl, ?_⟩)) | (refine u_alloc rfl rfl rfl rfl (fun b => ?_)) | (refine u_box rfl rfl rfl rfl rfl rfl (fun b => ?_)) | (refine x_build rfl rfl rfl rfl rfl ?_; refine ⟨_, rfl, ?_⟩)) | (with_reducible first | refine u_seq ?_ | refine u_region ?_ | refine u_nil ?_ | refine u_then_n ?_ | refine u_ret ?_ | refine u_skip ?_ | refine u_then_r ?_ | refine u_end ?_ | refine u_block ?_ | refine u_exit ?_ | refine u_in_n ?_ | refine u_in_r ?_ | refine u_in_same ?_ | refine u_then_e ?_) | ((with_reducible refine u_in_other ?_ ?_); (· exact rfl)) | ((with_reducible refine u_cond_t ?_ ?_); (· exact rfl)) | ((with_reducible refine u_cond_f ?_ ?_); (· exact rfl))))
        refine u_loopP (ι := Nat) [1, 2, 4, 7, 8] rfl (fun k => k ≤ xs.length) (fun k => [(9, .int .i64 (k : Int))]) (fun k => [.blk b (encSp (waterF c (catN pl y ++ xs.take k))), .blk b4 [.int .i64 0, .int .i64 0], .blk b2 (cellsCov c A ca B cb C cc)]) (fun k => xs.length - k) 0 (Nat.zero_le _) (by (first | exact fun _ _ h => lk_nil h | (repeat (first | exact (fun _ _ h => lk_nil h) | (refine lk_sub rfl ?_))))) (by simp only [List.take_zero, List.append_nil]; (repeat (first | exact Out.nil _ | (refine Out.cons (by (repeat (first | exact Take.here _ _ | apply Take.there))) ?_)))) ?_
        rintro k hk
        simp only [zipR, cellsCov, List.cons_append, List.nil_append]
        by_cases hkl : k < xs.length
        · obtain ⟨x, hx⟩ : ∃ x, xs[k]? = some x := ⟨_, List.getElem?_eq_getElem hkl⟩
          obtain ⟨i, rfl, hi⟩ := hmem x (List.mem_append_right _ (List.mem_of_getElem? hx))
          obtain ⟨z, hz⟩ : ∃ z, c.t[i]? = some z := ⟨_, List.getElem?_eq_getElem hi⟩
          have hlz : longI c i = z.long := by unfold longI; rw [Int.toNat_natCast, getD_of hz]
          have hli := longI_in hv hi
          have hwi := water_in hf hv (catN pl y ++ xs.take k) ⟨0, 0⟩ 0 (fun x hx => hmem x (by
            rcases List.mem_append.1 hx with hx | hx
            · exact List.mem_append_left _ hx
            · exact List.mem_append_right _ (List.mem_of_mem_take hx))) (by simp only; omega)
          have hwl : (catN pl y ++ xs.take k).length ≤ 300 := by rw [List.length_append, List.length_take]; omega
          have hw : waterF c (catN pl y ++ xs.take (k + 1)) = waterS c (waterF c (catN pl y ++ xs.take k)) i := by rw [List.take_add_one, hx, ← List.append_assoc]; exact waterF_add
          have hwe : (catN pl y ++ xs.take k).foldl (waterS c) ⟨0, 0⟩ = waterF c (catN pl y ++ xs.take k) := rfl
          rw [hwe] at hwi
          have m1 := mul_in (a := c.rate) (b := (longI c i).lo) (A := 100) (B := 30000) (by omega) (by omega) (by omega) (by omega)
          have m2 := mul_in (a := c.rate) (b := (longI c i).hi) (A := 100) (B := 30000) (by omega) (by omega) (by omega) (by omega)
          simp only [waterS] at hw
          rw [hlz] at hw m1 m2 hli
          generalize waterF c (catN pl y ++ xs.take k) = wk at *
          obtain ⟨rb, ro, rfl, hrb, _⟩ := hrow.at_ hkl
          have : InS w rb ro encI 1 xs := ⟨hrow⟩
          have : GetI xs k (i : Int) := ⟨hx⟩
          obtain ⟨tb, to, rfl, htb, _⟩ := htt.at_ hi
          have : InS w tb to encSt 9 c.t := ⟨htt⟩
          have : GetI c.t i z := ⟨hz⟩
          unfold encSp
          (repeat' (first | ((with_reducible refine isOps ?_); first | refine u_move rfl rfl rfl rfl rfl ?_ | refine u_assign rfl rfl rfl rfl rfl ?_ | (refine x_load rfl rfl rfl rfl rfl ?_; refine ⟨_, rfl, ?_⟩) | refine u_field rfl rfl rfl rfl rfl ?_ | (refine u_cmp rfl rfl rfl rfl rfl rfl rfl (fun h => ?_) (fun h => ?_) <;> (dsimp only [cmpP] at h; (try (exfalso; omega)))) | refine u_not rfl rfl rfl rfl rfl ?_ | refine u_add1 rfl rfl rfl rfl rfl rfl (by omega) ?_ | refine u_add rfl rfl rfl rfl rfl rfl (IntWalk.i64_in _ (by omega)) ?_ | refine u_mul rfl rfl rfl rfl rfl rfl (IntWalk.i64_in _ (by omega)) ?_ | refine u_index rfl rfl rfl rfl rfl rfl rfl (by omega) ?_ | refine u_indexA rfl rfl rfl rfl rfl rfl rfl (by first | decide | omega) ?_ | refine u_len rfl rfl rfl rfl rfl ?_ | (refine x_store rfl rfl rfl rfl rfl ?_; refine And.intro rfl (And.intro (by first | decide | exact Nat.le_of_ble_eq_true rfl | (simp; omega)) ⟨_, rfl, ?_⟩)) | (refine u_alloc rfl rfl rfl rfl (fun b => ?_)) | (refine u_box rfl rfl rfl rfl rfl rfl (fun b => ?_)) | (refine x_build rfl rfl rfl rfl rfl ?_; refine ⟨_, rfl, ?_⟩)) | (with_reducible first | refine u_seq ?_ | refine u_region ?_ | refine u_nil ?_ | refine u_then_n ?_ | refine u_ret ?_ | refine u_skip ?_ | refine u_then_r ?_ | refine u_end ?_ | refine u_block ?_ | refine u_exit ?_ | refine u_in_n ?_ | refine u_in_r ?_ | refine u_in_same ?_ | refine u_then_e ?_) | ((with_reducible refine u_in_other ?_ ?_); (· exact rfl)) | ((with_reducible refine u_cond_t ?_ ?_); (· exact rfl)) | ((with_reducible refine u_cond_f ?_ ?_); (· exact rfl))))
          (refine u_chain (by kernel_rfl) [[], [true], [true, true], [false, false, false], [false, false, false, false], [true, true, false, false, false], [true, true, true, false, false, false], [false, false, false, false, false, false, false], [true, true, true, true, true, false, false, false], [true, true, true, true, true, true, false, false, false], [true, true, true, true, true, true, true, true, true, true], [true, true, true, true, true, true, true, true, true, true, true], [true, true, true, true, true, true, true, true, true, true, true, true], [false, false, false, false, false, false, false, false, false, false, false, false, false], [true, true, true, true, true, true, true, true, true, true, true, true, true, true]] (by kernel_rfl) (by kernel_rfl) (by kernel_rfl) ?_)
          (repeat' (first | (((with_reducible refine c_go ?_ ?_); (· exact rfl); refine ⟨_, fun G => (by (try simp only [fltT, entsT, List.nil_append, List.cons_append]); rfl), ?_⟩); first | refine c_val _ (fun _ => e_move rfl rfl) (fun _ => rfl) rfl (by first | exact fun _ _ _ => rfl | (intro G G' h; simp (decide := true) only [h])) ?_ | refine c_val _ (fun _ => e_load' rfl rfl (by exact rfl)) (fun _ => rfl) rfl (by first | exact fun _ _ _ => rfl | (intro G G' h; simp (decide := true) only [h])) ?_ | (refine c_isField rfl ?_; refine c_val _ (fun _ => e_field rfl rfl) (fun _ => rfl) rfl (by first | exact fun _ _ _ => rfl | (intro G G' h; simp (decide := true) only [h])) ?_) | refine c_val _ (fun _ => e_index (I := y) rfl rfl rfl rfl (by omega)) (fun _ => rfl) rfl (by exact fun _ _ _ => rfl) ?_ | refine c_val _ (fun _ => e_index (I := k) rfl rfl rfl rfl (by first | omega | (dsimp only; omega))) (fun _ => rfl) rfl (by exact fun _ _ _ => rfl) ?_ | refine c_val _ (fun _ => e_index (I := i) rfl rfl rfl rfl (by omega)) (fun _ => rfl) rfl (by exact fun _ _ _ => rfl) ?_ | refine c_val _ (fun _ => e_index rfl rfl rfl rfl (by omega)) (fun _ => rfl) rfl (by first | exact fun _ _ _ => rfl | (intro G G' h; simp (decide := true) only [h])) ?_ | refine c_val _ (fun _ => e_indexA rfl rfl rfl rfl (by first | decide | omega)) (fun _ => rfl) rfl (by first | exact fun _ _ _ => rfl | (intro G G' h; simp (decide := true) only [h])) ?_ | refine c_alloc rfl (fun _ => rfl) rfl ?_) | ((with_reducible refine c_tail ?_ ?_); (· exact rfl)) | (with_reducible refine c_nil ?_)))
          (intro G; simp only [regsT, entsT, Pend.at_none, List.nil_append, List.cons_append])
          (repeat' (first | ((with_reducible refine isOps ?_); first | refine u_move rfl rfl rfl rfl rfl ?_ | refine u_assign rfl rfl rfl rfl rfl ?_ | (refine x_load rfl rfl rfl rfl rfl ?_; refine ⟨_, rfl, ?_⟩) | refine u_field rfl rfl rfl rfl rfl ?_ | (refine u_cmp rfl rfl rfl rfl rfl rfl rfl (fun h => ?_) (fun h => ?_) <;> (dsimp only [cmpP] at h; (try (exfalso; omega)))) | refine u_not rfl rfl rfl rfl rfl ?_ | refine u_add1 rfl rfl rfl rfl rfl rfl (by omega) ?_ | refine u_add rfl rfl rfl rfl rfl rfl (IntWalk.i64_in _ (by omega)) ?_ | refine u_mul rfl rfl rfl rfl rfl rfl (IntWalk.i64_in _ (by omega)) ?_ | refine u_index rfl rfl rfl rfl rfl rfl rfl (by omega) ?_ | refine u_indexA rfl rfl rfl rfl rfl rfl rfl (by first | decide | omega) ?_ | refine u_len rfl rfl rfl rfl rfl ?_ | (refine x_store rfl rfl rfl rfl rfl ?_; refine And.intro rfl (And.intro (by first | decide | exact Nat.le_of_ble_eq_true rfl | (simp; omega)) ⟨_, rfl, ?_⟩)) | (refine u_alloc rfl rfl rfl rfl (fun b => ?_)) | (refine u_box rfl rfl rfl rfl rfl rfl (fun b => ?_)) | (refine x_build rfl rfl rfl rfl rfl ?_; refine ⟨_, rfl, ?_⟩)) | (with_reducible first | refine u_seq ?_ | refine u_region ?_ | refine u_nil ?_ | refine u_then_n ?_ | refine u_ret ?_ | refine u_skip ?_ | refine u_then_r ?_ | refine u_end ?_ | refine u_block ?_ | refine u_exit ?_ | refine u_in_n ?_ | refine u_in_r ?_ | refine u_in_same ?_ | refine u_then_e ?_) | ((with_reducible refine u_in_other ?_ ?_); (· exact rfl)) | ((with_reducible refine u_cond_t ?_ ?_); (· exact rfl)) | ((with_reducible refine u_cond_f ?_ ?_); (· exact rfl))))
          exact u_again (k + 1) (by omega) (by omega) (by (first | exact fun _ _ h => lk_nil h | (repeat (first | exact (fun _ _ h => lk_nil h) | (refine lk_sub rfl ?_))))) (by simp only [hw]; (repeat (first | exact Out.nil _ | (refine Out.cons (by (repeat (first | exact Take.here _ _ | apply Take.there))) ?_))))
        · obtain rfl : k = xs.length := by omega
          rw [List.take_length, ← hcs]
          (repeat' (first | ((with_reducible refine isOps ?_); first | refine u_move rfl rfl rfl rfl rfl ?_ | refine u_assign rfl rfl rfl rfl rfl ?_ | (refine x_load rfl rfl rfl rfl rfl ?_; refine ⟨_, rfl, ?_⟩) | refine u_field rfl rfl rfl rfl rfl ?_ | (refine u_cmp rfl rfl rfl rfl rfl rfl rfl (fun h => ?_) (fun h => ?_) <;> (dsimp only [cmpP] at h; (try (exfalso; omega)))) | refine u_not rfl rfl rfl rfl rfl ?_ | refine u_add1 rfl rfl rfl rfl rfl rfl (by omega) ?_ | refine u_add rfl rfl rfl rfl rfl rfl (IntWalk.i64_in _ (by omega)) ?_ | refine u_mul rfl rfl rfl rfl rfl rfl (IntWalk.i64_in _ (by omega)) ?_ | refine u_index rfl rfl rfl rfl rfl rfl rfl (by omega) ?_ | refine u_indexA rfl rfl rfl rfl rfl rfl rfl (by first | decide | omega) ?_ | refine u_len rfl rfl rfl rfl rfl ?_ | (refine x_store rfl rfl rfl rfl rfl ?_; refine And.intro rfl (And.intro (by first | decide | exact Nat.le_of_ble_eq_true rfl | (simp; omega)) ⟨_, rfl, ?_⟩)) | (refine u_alloc rfl rfl rfl rfl (fun b => ?_)) | (refine u_box rfl rfl rfl rfl rfl rfl (fun b => ?_)) | (refine x_build rfl rfl rfl rfl rfl ?_; refine ⟨_, rfl, ?_⟩)) | (with_reducible first | refine u_seq ?_ | refine u_region ?_ | refine u_nil ?_ | refine u_then_n ?_ | refine u_ret ?_ | refine u_skip ?_ | refine u_then_r ?_ | refine u_end ?_ | refine u_block ?_ | refine u_exit ?_ | refine u_in_n ?_ | refine u_in_r ?_ | refine u_in_same ?_ | refine u_then_e ?_) | ((with_reducible refine u_in_other ?_ ?_); (· exact rfl)) | ((with_reducible refine u_cond_t ?_ ?_); (· exact rfl)) | ((with_reducible refine u_cond_f ?_ ?_); (· exact rfl))))
          exact u_again (y + 1) (by omega) (by omega) (by (first | exact fun _ _ h => lk_nil h | (repeat (first | exact (fun _ _ h => lk_nil h) | (refine lk_sub rfl ?_))))) (by (repeat (first | exact Out.nil _ | (refine Out.cons (by (repeat (first | exact Take.here _ _ | apply Take.there))) ?_))))
      · obtain rfl : y = pl.length := by omega
        (repeat' (first | ((with_reducible refine isOps ?_); first | refine u_move rfl rfl rfl rfl rfl ?_ | refine u_assign rfl rfl rfl rfl rfl ?_ | (refine x_load rfl rfl rfl rfl rfl ?_; refine ⟨_, rfl, ?_⟩) | refine u_field rfl rfl rfl rfl rfl ?_ | (refine u_cmp rfl rfl rfl rfl rfl rfl rfl (fun h => ?_) (fun h => ?_) <;> (dsimp only [cmpP] at h; (try (exfalso; omega)))) | refine u_not rfl rfl rfl rfl rfl ?_ | refine u_add1 rfl rfl rfl rfl rfl rfl (by omega) ?_ | refine u_add rfl rfl rfl rfl rfl rfl (IntWalk.i64_in _ (by omega)) ?_ | refine u_mul rfl rfl rfl rfl rfl rfl (IntWalk.i64_in _ (by omega)) ?_ | refine u_index rfl rfl rfl rfl rfl rfl rfl (by omega) ?_ | refine u_indexA rfl rfl rfl rfl rfl rfl rfl (by first | decide | omega) ?_ | refine u_len rfl rfl rfl rfl rfl ?_ | (refine x_store rfl rfl rfl rfl rfl ?_; refine And.intro rfl (And.intro (by first | decide | exact Nat.le_of_ble_eq_true rfl | (simp; omega)) ⟨_, rfl, ?_⟩)) | (refine u_alloc rfl rfl rfl rfl (fun b => ?_)) | (refine u_box rfl rfl rfl rfl rfl rfl (fun b => ?_)) | (refine x_build rfl rfl rfl rfl rfl ?_; refine ⟨_, rfl, ?_⟩)) | (with_reducible first | refine u_seq ?_ | refine u_region ?_ | refine u_nil ?_ | refine u_then_n ?_ | refine u_ret ?_ | refine u_skip ?_ | refine u_then_r ?_ | refine u_end ?_ | refine u_block ?_ | refine u_exit ?_ | refine u_in_n ?_ | refine u_in_r ?_ | refine u_in_same ?_ | refine u_then_e ?_) | ((with_reducible refine u_in_other ?_ ?_); (· exact rfl)) | ((with_reducible refine u_cond_t ?_ ?_); (· exact rfl)) | ((with_reducible refine u_cond_f ?_ ?_); (· exact rfl))))
        exact u_done (by (exact ResL.cons (by exact res1c rfl (by exact rfl)) (ResL.cons (by exact Res1.tmp rfl) ResL.nil))) () trivial rfl (fun _ h => h.sub (by (repeat (first | exact Out.nil _ | (refine Out.cons (by (repeat (first | exact Take.here _ _ | apply Take.there))) ?_)))))
  · rw [if_neg h0]
    unfold cellsCov at h1 h2 ⊢
    generalize errI c = e at *
    rw [if_neg h0]
    (refine ret_enter (n := 68) Tryd.func33 rfl rfl rfl ?_)
    (repeat' (first | ((with_reducible refine isOps ?_); first | refine u_move rfl rfl rfl rfl rfl ?_ | refine u_assign rfl rfl rfl rfl rfl ?_ | (refine x_load rfl rfl rfl rfl rfl ?_; refine ⟨_, rfl, ?_⟩) | refine u_field rfl rfl rfl rfl rfl ?_ | (refine u_cmp rfl rfl rfl rfl rfl rfl rfl (fun h => ?_) (fun h => ?_) <;> (dsimp only [cmpP] at h; (try (exfalso; omega)))) | refine u_gives rfl rfl rfl rfl rfl rfl (fun _ _ q => h1 _ q.below) ?_ | refine u_not rfl rfl rfl rfl rfl ?_ | refine u_add1 rfl rfl rfl rfl rfl rfl (by omega) ?_ | refine u_add rfl rfl rfl rfl rfl rfl (IntWalk.i64_in _ (by omega)) ?_ | refine u_mul rfl rfl rfl rfl rfl rfl (IntWalk.i64_in _ (by omega)) ?_ | refine u_index rfl rfl rfl rfl rfl rfl rfl (by omega) ?_ | refine u_indexA rfl rfl rfl rfl rfl rfl rfl (by first | decide | omega) ?_ | refine u_len rfl rfl rfl rfl rfl ?_ | (refine x_store rfl rfl rfl rfl rfl ?_; refine And.intro rfl (And.intro (by first | decide | exact Nat.le_of_ble_eq_true rfl | (simp; omega)) ⟨_, rfl, ?_⟩)) | (refine u_alloc rfl rfl rfl rfl (fun b => ?_)) | (refine u_box rfl rfl rfl rfl rfl rfl (fun b => ?_)) | (refine x_build rfl rfl rfl rfl rfl ?_; refine ⟨_, rfl, ?_⟩)) | (with_reducible first | refine u_seq ?_ | refine u_region ?_ | refine u_nil ?_ | refine u_then_n ?_ | refine u_ret ?_ | refine u_skip ?_ | refine u_then_r ?_ | refine u_end ?_ | refine u_block ?_ | refine u_exit ?_ | refine u_in_n ?_ | refine u_in_r ?_ | refine u_in_same ?_ | refine u_then_e ?_) | ((with_reducible refine u_in_other ?_ ?_); (· exact rfl)) | ((with_reducible refine u_cond_t ?_ ?_); (· exact rfl)) | ((with_reducible refine u_cond_f ?_ ?_); (· exact rfl))))
    all_goals exact u_done (by (exact ResL.cons (by exact res1c rfl (by exact rfl)) (ResL.cons (by exact Res1.tmp rfl) ResL.nil))) () trivial rfl (fun _ h => h.sub (by (repeat (first | exact Out.nil _ | (refine Out.cons (by (repeat (first | exact Take.here _ _ | apply Take.there))) ?_)))))
end Go.Proofs.YtdigopgncfhiaaaDoor
/- Ice: the law of what is too thin. -/
namespace Go.Proofs.YtdigopgncfhiaaaDoor
open Go.RowKit
set_option linter.unusedSimpArgs false
set_option linter.unusedVariables false
set_option maxRecDepth 20000
theorem thinT_congr {c : Cov} {pl pl' : List Sli} (h : pl.map Sli.xs = pl'.map Sli.xs) : thinT c pl = thinT c pl' := by unfold thinT; rw [errK_congr h, thinS_congr h]
theorem safeT_congr {c : Cov} {pl pl' : List Sli} (h : pl.map Sli.xs = pl'.map Sli.xs) : safeT c pl = safeT c pl' := by unfold safeT; rw [errK_congr h, thinS_congr h, thinS_congr h]
theorem waterT_congr {c : Cov} {pl pl' : List Sli} (h : pl.map Sli.xs = pl'.map Sli.xs) : waterT c pl = waterT c pl' := by
  unfold waterT catN
  rw [errK_congr h, List.take_length, List.take_length, List.flatMap_def, List.flatMap_def, h]
set_option maxHeartbeats 4000000 in
theorem iceThins_any (c : Cov) (A : Option Addr) (ca : Nat) (B : Option Addr) (cb : Nat) (C : Option Addr) (cc : Nat) (pl : List Sli) (P : Option Addr) (cp : Nat) (w : World) (hc : CovAt w c A B C) (hfit : FitT c.t) (hp : PlanAt w P pl) (hcap : pl.length ≤ cp ∧ cp ≤ maxLen) (hG : InC w 0 0 limC) :
    Gv Tryd.prog 5 [vCov c A ca B cb C cc, .slice P pl.length cp] w (.bool true) := by
  have hGr := fun W (hW : Below w.heap.size w W) => rGreat2_any c A ca B cb C cc pl P cp W (hp.below hW) hcap
  unfold vCov at hGr
  unfold Gv vCov
  cases hgr : greatI c pl
  · rw [hgr] at hGr
    obtain ⟨h1, h2, h3, h4, h5⟩ := greatI_no hgr
    have hs : Small c := ⟨hfit, h1, h2, h3⟩
    have hTw := fun W (hW : Below w.heap.size w W) => twin2_any c A ca B cb C cc W (hc.below hW) (by omega) (by omega) (by omega)
    have hTp := fun W (hW : Below w.heap.size w W) => twinPlan_any pl P cp W (hp.below hW) h4 h5
    unfold vCov at hTw
    unfold cellsCov at hTw hGr ⊢
    (refine ret_enter (n := 100) Tryd.func5 rfl rfl rfl ?_)
    (repeat' (first | ((with_reducible refine isOps ?_); first | refine u_move rfl rfl rfl rfl rfl ?_ | refine u_assign rfl rfl rfl rfl rfl ?_ | (refine x_load rfl rfl rfl rfl rfl ?_; refine ⟨_, rfl, ?_⟩) | refine u_pick rfl rfl rfl rfl rfl rfl ?_ | refine u_not_wanted rfl rfl rfl ?_ | refine u_not_wanted0 rfl rfl ?_ | (refine u_cmp rfl rfl rfl rfl rfl rfl rfl (fun h => ?_) (fun h => ?_) <;> (dsimp only [cmpP] at h; (try (exfalso; omega)))) | refine u_gives rfl rfl rfl rfl rfl rfl (fun _ _ q => hGr _ q.below) ?_ | (refine u_call rfl rfl rfl rfl rfl rfl (fun _ _ q => hTw _ q.below) ?_; rintro ⟨⟨A1, ca1⟩, ⟨B1, cb1⟩, ⟨C1, cc1⟩⟩ -; dsimp only [List.cons_append, List.nil_append]) | (refine u_call rfl rfl rfl rfl rfl rfl (fun _ _ q => hTp _ q.below) ?_; rintro ⟨⟨P1, cp1⟩, pl1⟩ hx; dsimp only [List.cons_append, List.nil_append] at hx ⊢) | refine u_extract rfl rfl rfl rfl rfl rfl ?_ | (refine x_store rfl rfl rfl rfl rfl ?_; refine And.intro rfl (And.intro (by first | decide | exact Nat.le_of_ble_eq_true rfl | (simp; omega)) ⟨_, rfl, ?_⟩)) | (refine u_alloc rfl rfl rfl rfl (fun b => ?_)) | (refine u_box rfl rfl rfl rfl rfl rfl (fun b => ?_))) | (with_reducible first | refine u_seq ?_ | refine u_region ?_ | refine u_nil ?_ | refine u_then_n ?_ | refine u_ret ?_ | refine u_skip ?_ | refine u_then_r ?_ | refine u_end ?_) | ((with_reducible refine u_cond_t ?_ ?_); (· exact rfl)) | ((with_reducible refine u_cond_f ?_ ?_); (· exact rfl))))
    have hl1 : pl1.length = pl.length := by have := congrArg List.length hx; simpa using this
    have h51 : ∀ s ∈ pl1, s.xs.length ≤ 20 := fun s hs' => by
      obtain ⟨j, hj⟩ := List.mem_iff_getElem?.1 hs'
      have hjl := (List.getElem?_eq_some_iff.1 hj).1
      have := getD_xs hx j
      rw [getD_of hj] at this
      rw [this, List.getD_eq_getElem?_getD, List.getElem?_eq_getElem (show j < pl.length by omega)]
      exact h5 _ (List.getElem_mem _)
    have hA1 := fun W (hC : CovAt W c A1 B1 C1) (hP : PlanAt W P1 pl1) (hG : InC W 0 0 limC) => iThin_any c A1 ca1 B1 cb1 C1 cc1 pl1 P1 cp1 W hC hs hP (by omega) h51 hG
    have hA2 := fun W (hW : Below w.heap.size w W) => rThin2_any c A ca B cb C cc pl P cp W (hc.below hW) hs (hp.below hW) h4 h5
    have hF1 := fun W (hC : CovAt W c A1 B1 C1) (hP : PlanAt W P1 pl1) (hG : InC W 0 0 limC) => iSafe_any c A1 ca1 B1 cb1 C1 cc1 pl1 P1 cp1 W hC hs hP (by omega) h51 hG
    have hF2 := fun W (hW : Below w.heap.size w W) => rSafe2_any c A ca B cb C cc pl P cp W (hc.below hW) hs (hp.below hW) h4 h5
    have hW1 := fun W (hC : CovAt W c A1 B1 C1) (hP : PlanAt W P1 pl1) => iWater_any c A1 ca1 B1 cb1 C1 cc1 pl1 P1 cp1 W hC hs hP (by omega) h51
    have hW2 := fun W (hW : Below w.heap.size w W) => rWater2_any c A ca B cb C cc pl P cp W (hc.below hW) hs (hp.below hW) h4 h5
    have hS1 := fun W (hC : CovAt W c A1 B1 C1) (hW : Below w.heap.size w W) => same2_yes c A1 ca1 B1 cb1 C1 cc1 A ca B cb C cc W hC (hc.below hW) hs
    have hS2 := fun W (hP : PlanAt W P1 pl1) (hW : Below w.heap.size w W) => sameLists_yes pl1 pl P1 cp1 P cp W hP (hp.below hW) hx (by omega) (fun s hs => by have := h5 s hs; omega)
    simp only [thinT_congr hx, safeT_congr hx, waterT_congr hx, errK_congr hx, hl1] at hA1 hF1 hW1 hS2
    have hSP := fun A' ca' B' cb' W h1 h2 => samePairs_yes (thinT c pl) A' ca' B' cb' W h1 h2 (by
      unfold thinT
      split
      · have := thinS_len (c := c) (pl := pl) (en := worstE) (by omega) (by omega); omega
      · simp)
    unfold vCov at hA1 hA2 hF1 hF2 hW1 hW2 hS1
    unfold cellsCov at hA1 hA2 hF1 hF2 hW1 hW2 hS1
    unfold vSp at hW1 hW2
    generalize thinT c pl = lp at *
    (repeat' (first | ((with_reducible refine isOps ?_); first | refine u_move rfl rfl rfl rfl rfl ?_ | refine u_assign rfl rfl rfl rfl rfl ?_ | (refine x_load rfl rfl rfl rfl rfl ?_; refine ⟨_, rfl, ?_⟩) | refine u_pick rfl rfl rfl rfl rfl rfl ?_ | refine u_not_wanted rfl rfl rfl ?_ | refine u_not_wanted0 rfl rfl ?_ | (refine u_cmp rfl rfl rfl rfl rfl rfl rfl (fun h => ?_) (fun h => ?_) <;> (dsimp only [cmpP] at h; (try (exfalso; omega)))) | (refine u_call rfl rfl rfl rfl rfl rfl (fun _ _ q => hA1 _ ⟨(sl_at q.own (Below.refl _ _)), (sl_at q.own (Below.refl _ _)), (sl_at q.own (Below.refl _ _))⟩ ⟨(sl_at q.own (Below.refl _ _)), q.own.here (.rows pl1) (Take.mem (by (repeat (first | exact Take.here _ _ | apply Take.there))))⟩ (hG.below q.below)) ?_; rintro ⟨T1, tc1⟩ -; dsimp only [List.cons_append, List.nil_append]) | (refine u_call rfl rfl rfl rfl rfl rfl (fun _ _ q => hA2 _ q.below) ?_; rintro ⟨T2, tc2⟩ -; dsimp only [List.cons_append, List.nil_append]) | refine u_gives rfl rfl rfl rfl rfl rfl (fun _ _ q => hF1 _ ⟨(sl_at q.own (Below.refl _ _)), (sl_at q.own (Below.refl _ _)), (sl_at q.own (Below.refl _ _))⟩ ⟨(sl_at q.own (Below.refl _ _)), q.own.here (.rows pl1) (Take.mem (by (repeat (first | exact Take.here _ _ | apply Take.there))))⟩ (hG.below q.below)) ?_ | refine u_gives rfl rfl rfl rfl rfl rfl (fun _ _ q => hF2 _ q.below) ?_ | refine u_gives rfl rfl rfl rfl rfl rfl (fun _ _ q => hW1 _ ⟨(sl_at q.own (Below.refl _ _)), (sl_at q.own (Below.refl _ _)), (sl_at q.own (Below.refl _ _))⟩ ⟨(sl_at q.own (Below.refl _ _)), q.own.here (.rows pl1) (Take.mem (by (repeat (first | exact Take.here _ _ | apply Take.there))))⟩) ?_ | refine u_gives rfl rfl rfl rfl rfl rfl (fun _ _ q => hW2 _ q.below) ?_ | refine u_gives rfl rfl rfl rfl rfl rfl (fun _ _ q => hSP _ _ _ _ _ (sl_at q.own (Below.refl _ _)) (sl_at q.own (Below.refl _ _))) ?_ | refine u_gives rfl rfl rfl rfl rfl rfl (fun _ _ q => hS1 _ ⟨(sl_at q.own (Below.refl _ _)), (sl_at q.own (Below.refl _ _)), (sl_at q.own (Below.refl _ _))⟩ q.below) ?_ | refine u_gives rfl rfl rfl rfl rfl rfl (fun _ _ q => hS2 _ ⟨(sl_at q.own (Below.refl _ _)), q.own.here (.rows pl1) (Take.mem (by (repeat (first | exact Take.here _ _ | apply Take.there))))⟩ q.below) ?_ | (refine u_eqsp rfl rfl rfl rfl rfl rfl (fun h => ?_) (fun h => ?_) <;> (try (exfalso; omega))) | refine u_extract rfl rfl rfl rfl rfl rfl ?_ | (refine x_store rfl rfl rfl rfl rfl ?_; refine And.intro rfl (And.intro (by first | decide | exact Nat.le_of_ble_eq_true rfl | (simp; omega)) ⟨_, rfl, ?_⟩)) | (refine u_alloc rfl rfl rfl rfl (fun b => ?_)) | (refine u_box rfl rfl rfl rfl rfl rfl (fun b => ?_))) | (with_reducible first | refine u_seq ?_ | refine u_region ?_ | refine u_nil ?_ | refine u_then_n ?_ | refine u_ret ?_ | refine u_skip ?_ | refine u_then_r ?_ | refine u_end ?_) | ((with_reducible refine u_cond_t ?_ ?_); (· exact rfl)) | ((with_reducible refine u_cond_f ?_ ?_); (· exact rfl))))
    all_goals exact u_done (by (exact ResL.cons (by exact Res1.tmp rfl) ResL.nil)) () trivial rfl (fun _ h => h.sub (by (repeat (first | exact Out.nil _ | (refine Out.cons (by (repeat (first | exact Take.here _ _ | apply Take.there))) ?_)))))
  · rw [hgr] at hGr
    unfold cellsCov at hGr ⊢
    (refine ret_enter (n := 100) Tryd.func5 rfl rfl rfl ?_)
    (repeat' (first | ((with_reducible refine isOps ?_); first | refine u_move rfl rfl rfl rfl rfl ?_ | refine u_assign rfl rfl rfl rfl rfl ?_ | (refine x_load rfl rfl rfl rfl rfl ?_; refine ⟨_, rfl, ?_⟩) | refine u_pick rfl rfl rfl rfl rfl rfl ?_ | refine u_not_wanted rfl rfl rfl ?_ | refine u_not_wanted0 rfl rfl ?_ | (refine u_cmp rfl rfl rfl rfl rfl rfl rfl (fun h => ?_) (fun h => ?_) <;> (dsimp only [cmpP] at h; (try (exfalso; omega)))) | refine u_gives rfl rfl rfl rfl rfl rfl (fun _ _ q => hGr _ q.below) ?_ | refine u_extract rfl rfl rfl rfl rfl rfl ?_ | (refine x_store rfl rfl rfl rfl rfl ?_; refine And.intro rfl (And.intro (by first | decide | exact Nat.le_of_ble_eq_true rfl | (simp; omega)) ⟨_, rfl, ?_⟩)) | (refine u_alloc rfl rfl rfl rfl (fun b => ?_)) | (refine u_box rfl rfl rfl rfl rfl rfl (fun b => ?_))) | (with_reducible first | refine u_seq ?_ | refine u_region ?_ | refine u_nil ?_ | refine u_then_n ?_ | refine u_ret ?_ | refine u_skip ?_ | refine u_then_r ?_ | refine u_end ?_) | ((with_reducible refine u_cond_t ?_ ?_); (· exact rfl)) | ((with_reducible refine u_cond_f ?_ ?_); (· exact rfl))))
    all_goals exact u_done (by (exact ResL.cons (by exact Res1.tmp rfl) ResL.nil)) () trivial rfl (fun _ h => h.sub (by (repeat (first | exact Out.nil _ | (refine Out.cons (by (repeat (first | exact Take.here _ _ | apply Take.there))) ?_)))))
end Go.Proofs.YtdigopgncfhiaaaDoor
