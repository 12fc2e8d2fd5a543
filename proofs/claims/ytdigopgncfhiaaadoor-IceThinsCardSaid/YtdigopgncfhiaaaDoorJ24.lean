/- Ice: all sprayings of a plan, one list. -/
import Derived.Test.YtdigopgncfhiaaaDoorJ21
import Derived.Test.YtdigopgncfhiaaaDoorW4
import Derived.Test.YtdigopgncfhiaaaDoorDropT
namespace Go.Proofs.YtdigopgncfhiaaaDoor
open Go.RowKit
set_option linter.unusedSimpArgs false
set_option linter.unusedVariables false
set_option maxRecDepth 20000
set_option maxHeartbeats 1000000 in
theorem growI_any (m : Nat) (w : World) (hm : m ≤ 1000) : Ret Tryd.prog 117 [.slice none 0 0, .int .i64 (m : Int)] w (fun v : Value => v) (fun v => [.row encI 1 3 v ([] : List Int)]) (fun _ => True) := by
  by_cases h0 : 0 < m
  · (refine ret_enter (n := 27) Tryd.func117 rfl rfl rfl ?_)
    (repeat' (first | ((with_reducible refine isOps ?_); first | refine u_move rfl rfl rfl rfl rfl ?_ | refine u_assign rfl rfl rfl rfl rfl ?_ | (refine u_cmp rfl rfl rfl rfl rfl rfl rfl (fun h => ?_) (fun h => ?_) <;> (dsimp only [cmpP] at h; (try (exfalso; omega)))) | refine u_sliceTo 0 rfl rfl rfl rfl rfl (by exact rfl) rfl (by omega) (by first | exact rfl | simp [Addr.add]) ?_ | (refine u_append0 encI (m := m) rfl rfl rfl rfl rfl (by rw [show (m : Int) = (m : Int) - (((0 : Nat) : Int) - ((0 : Nat) : Int)) by omega]; exact rfl) h0 (by omega) (fun b c' hc => ?_)) | refine u_sub rfl rfl rfl rfl rfl rfl (IntWalk.i64_in _ (by omega)) ?_ | refine u_len rfl rfl rfl rfl rfl ?_ | refine u_cap rfl rfl rfl rfl rfl ?_) | (with_reducible first | refine u_seq ?_ | refine u_region ?_ | refine u_nil ?_ | refine u_then_n ?_ | refine u_ret ?_ | refine u_skip ?_ | refine u_then_r ?_ | refine u_end ?_) | ((with_reducible refine u_cond_t ?_ ?_); (· exact rfl)) | ((with_reducible refine u_cond_f ?_ ?_); (· exact rfl))))
    exact u_done (by (exact ResL.cons (by exact Res1.tmp rfl) ResL.nil)) _ trivial rfl (fun _ h => h.sub (by (repeat (first | exact Out.nil _ | (refine Out.cons (by (repeat (first | exact Take.here _ _ | apply Take.there))) ?_)))))
  · obtain rfl : m = 0 := by omega
    (refine ret_enter (n := 27) Tryd.func117 rfl rfl rfl ?_)
    (repeat' (first | ((with_reducible refine isOps ?_); first | refine u_move rfl rfl rfl rfl rfl ?_ | refine u_assign rfl rfl rfl rfl rfl ?_ | (refine u_cmp rfl rfl rfl rfl rfl rfl rfl (fun h => ?_) (fun h => ?_) <;> (dsimp only [cmpP] at h; (try (exfalso; omega)))) | refine u_sub rfl rfl rfl rfl rfl rfl (IntWalk.i64_in _ (by omega)) ?_ | refine u_len rfl rfl rfl rfl rfl ?_ | refine u_cap rfl rfl rfl rfl rfl ?_) | (with_reducible first | refine u_seq ?_ | refine u_region ?_ | refine u_nil ?_ | refine u_then_n ?_ | refine u_ret ?_ | refine u_skip ?_ | refine u_then_r ?_ | refine u_end ?_) | ((with_reducible refine u_cond_t ?_ ?_); (· exact rfl)) | ((with_reducible refine u_cond_f ?_ ?_); (· exact rfl))))
    refine u_row_nil encI 1 3 ?_
    exact u_done (by (exact ResL.cons (by exact Res1.tmp rfl) ResL.nil)) (.slice none 0 0) trivial rfl (fun _ h => h.sub (by (repeat (first | exact Out.nil _ | (refine Out.cons (by (repeat (first | exact Take.here _ _ | apply Take.there))) ?_)))))
def catN (pl : List Sli) (k : Nat) : List Int := (pl.take k).flatMap Sli.xs
theorem catN_succ {pl : List Sli} {k : Nat} {s : Sli} (h : pl[k]? = some s) : catN pl (k + 1) = catN pl k ++ s.xs := by
  unfold catN
  rw [List.take_add_one, h, List.flatMap_append]
  simp
theorem catN_len {pl : List Sli} (h : ∀ s ∈ pl, s.xs.length ≤ 20) : ∀ k, k ≤ pl.length → (catN pl k).length ≤ k * 20
  | 0, _ => by simp [catN]
  | k + 1, hk => by
    obtain ⟨s, hs⟩ : ∃ s, pl[k]? = some s := ⟨_, List.getElem?_eq_getElem (by omega)⟩
    rw [catN_succ hs, List.length_append]
    have := catN_len h k (by omega)
    have := h s (List.mem_of_getElem? hs)
    omega
set_option maxHeartbeats 2000000 in
theorem concatI_any (pl : List Sli) (P : Option Addr) (cp : Nat) (w : World) (hp : PlanAt w P pl) (hl : pl.length ≤ 12) (hrl : ∀ s ∈ pl, s.xs.length ≤ 20) :
    NewSl encI 1 (pl.flatMap Sli.xs) (fun v => v) Tryd.prog 86 [.slice P pl.length cp] w := by
  have hpp := hp.p
  have hcl := catN_len hrl
  have hall : catN pl pl.length = pl.flatMap Sli.xs := by unfold catN; rw [List.take_length]
  rw [← hall]
  unfold NewSl
  (refine ret_enter (n := 36) Tryd.func86 rfl rfl rfl ?_)
  (repeat' (first | ((with_reducible refine isOps ?_); first | refine u_move rfl rfl rfl rfl rfl ?_ | refine u_assign rfl rfl rfl rfl rfl ?_ | (refine x_load rfl rfl rfl rfl rfl ?_; refine ⟨_, rfl, ?_⟩) | (refine u_cmp rfl rfl rfl rfl rfl rfl rfl (fun h => ?_) (fun h => ?_) <;> (dsimp only [cmpP] at h; (try (exfalso; omega)))) | refine u_add1 rfl rfl rfl rfl rfl rfl (by omega) ?_ | refine u_add rfl rfl rfl rfl rfl rfl (IntWalk.i64_in _ (by omega)) ?_ | refine u_index rfl rfl rfl rfl rfl rfl rfl (by omega) ?_ | refine u_indexA rfl rfl rfl rfl rfl rfl rfl (by first | decide | omega) ?_ | refine u_len rfl rfl rfl rfl rfl ?_) | (with_reducible first | refine u_seq ?_ | refine u_region ?_ | refine u_nil ?_ | refine u_then_n ?_ | refine u_ret ?_ | refine u_skip ?_ | refine u_then_r ?_ | refine u_end ?_ | refine u_block ?_ | refine u_exit ?_ | refine u_in_n ?_ | refine u_in_r ?_ | refine u_in_same ?_ | refine u_then_e ?_) | ((with_reducible refine u_in_other ?_ ?_); (· exact rfl)) | ((with_reducible refine u_cond_t ?_ ?_); (· exact rfl)) | ((with_reducible refine u_cond_f ?_ ?_); (· exact rfl))))
  refine u_loopP (ι := Nat) [0, 9, 10] rfl (fun k => k ≤ pl.length) (fun k => [(11, .int .i64 (k : Int)), (3, .int .i64 ((catN pl k).length : Int))]) (fun _ => []) (fun k => pl.length - k) 0 (Nat.zero_le _) (by (first | exact fun _ _ h => lk_nil h | (repeat (first | exact (fun _ _ h => lk_nil h) | (refine lk_sub rfl ?_))))) (by (repeat (first | exact Out.nil _ | (refine Out.cons (by (repeat (first | exact Take.here _ _ | apply Take.there))) ?_)))) ?_
  rintro k hk
  simp only [zipR, List.cons_append, List.nil_append]
  have hck := hcl k hk
  by_cases hlt : k < pl.length
  · obtain ⟨s, hsk⟩ : ∃ s, pl[k]? = some s := ⟨_, List.getElem?_eq_getElem hlt⟩
    have hsl := hrl s (List.mem_of_getElem? hsk)
    obtain ⟨bb, o, rfl, hblt, hc⟩ := hpp.at_ hlt
    have : InS w bb o encSli 1 pl := ⟨hpp⟩
    have : GetI pl k s := ⟨hsk⟩
    have hcs : ((catN pl (k + 1)).length : Int) = ((catN pl k).length : Int) + (s.xs.length : Int) := by rw [catN_succ hsk, List.length_append]; omega
    (repeat' (first | ((with_reducible refine isOps ?_); first | refine u_move rfl rfl rfl rfl rfl ?_ | refine u_assign rfl rfl rfl rfl rfl ?_ | (refine x_load rfl rfl rfl rfl rfl ?_; refine ⟨_, rfl, ?_⟩) | (refine u_cmp rfl rfl rfl rfl rfl rfl rfl (fun h => ?_) (fun h => ?_) <;> (dsimp only [cmpP] at h; (try (exfalso; omega)))) | refine u_add1 rfl rfl rfl rfl rfl rfl (by omega) ?_ | refine u_add rfl rfl rfl rfl rfl rfl (IntWalk.i64_in _ (by omega)) ?_ | refine u_index rfl rfl rfl rfl rfl rfl rfl (by omega) ?_ | refine u_indexA rfl rfl rfl rfl rfl rfl rfl (by first | decide | omega) ?_ | refine u_len rfl rfl rfl rfl rfl ?_) | (with_reducible first | refine u_seq ?_ | refine u_region ?_ | refine u_nil ?_ | refine u_then_n ?_ | refine u_ret ?_ | refine u_skip ?_ | refine u_then_r ?_ | refine u_end ?_ | refine u_block ?_ | refine u_exit ?_ | refine u_in_n ?_ | refine u_in_r ?_ | refine u_in_same ?_ | refine u_then_e ?_) | ((with_reducible refine u_in_other ?_ ?_); (· exact rfl)) | ((with_reducible refine u_cond_t ?_ ?_); (· exact rfl)) | ((with_reducible refine u_cond_f ?_ ?_); (· exact rfl))))
    all_goals exact u_again (k + 1) (by omega) (by omega) (by simp only [hcs]; (first | exact fun _ _ h => lk_nil h | (repeat (first | exact (fun _ _ h => lk_nil h) | (refine lk_sub rfl ?_))))) (by (repeat (first | exact Out.nil _ | (refine Out.cons (by (repeat (first | exact Take.here _ _ | apply Take.there))) ?_))))
  · obtain rfl : k = pl.length := by omega
    have hg := fun W => growI_any (catN pl pl.length).length W (by omega)
    (repeat' (first | ((with_reducible refine isOps ?_); first | refine u_move rfl rfl rfl rfl rfl ?_ | refine u_assign rfl rfl rfl rfl rfl ?_ | (refine x_load rfl rfl rfl rfl rfl ?_; refine ⟨_, rfl, ?_⟩) | (refine u_cmp rfl rfl rfl rfl rfl rfl rfl (fun h => ?_) (fun h => ?_) <;> (dsimp only [cmpP] at h; (try (exfalso; omega)))) | (refine u_call rfl rfl rfl rfl rfl rfl (fun _ w _ => hg w) ?_; rintro v9 -; dsimp only [List.cons_append, List.nil_append]) | refine u_add1 rfl rfl rfl rfl rfl rfl (by omega) ?_ | refine u_add rfl rfl rfl rfl rfl rfl (IntWalk.i64_in _ (by omega)) ?_ | refine u_index rfl rfl rfl rfl rfl rfl rfl (by omega) ?_ | refine u_indexA rfl rfl rfl rfl rfl rfl rfl (by first | decide | omega) ?_ | refine u_len rfl rfl rfl rfl rfl ?_) | (with_reducible first | refine u_seq ?_ | refine u_region ?_ | refine u_nil ?_ | refine u_then_n ?_ | refine u_ret ?_ | refine u_skip ?_ | refine u_then_r ?_ | refine u_end ?_ | refine u_block ?_ | refine u_exit ?_ | refine u_in_n ?_ | refine u_in_r ?_ | refine u_in_same ?_ | refine u_then_e ?_) | ((with_reducible refine u_in_other ?_ ?_); (· exact rfl)) | ((with_reducible refine u_cond_t ?_ ?_); (· exact rfl)) | ((with_reducible refine u_cond_f ?_ ?_); (· exact rfl))))
    refine u_loopP (ι := Nat × Value) [25, 26] rfl (fun q => q.1 ≤ pl.length) (fun q => [(27, .int .i64 (q.1 : Int)), (6, q.2)]) (fun q => [.row encI 1 3 q.2 (catN pl q.1)]) (fun q => pl.length - q.1) (0, v9) (Nat.zero_le _) (by (first | exact fun _ _ h => lk_nil h | (repeat (first | exact (fun _ _ h => lk_nil h) | (refine lk_sub rfl ?_))))) (by (repeat (first | exact Out.nil _ | (refine Out.cons (by (repeat (first | exact Take.here _ _ | apply Take.there))) ?_)))) ?_
    rintro ⟨k, v⟩ hk
    simp only at hk
    simp only [zipR, List.cons_append, List.nil_append]
    have hck := hcl k hk
    by_cases hlt : k < pl.length
    · obtain ⟨s, hsk⟩ : ∃ s, pl[k]? = some s := ⟨_, List.getElem?_eq_getElem hlt⟩
      have hsm := List.mem_of_getElem? hsk
      have hsl := hrl s hsm
      have hrow := hp.rows s hsm
      obtain ⟨bb, o, rfl, hblt, hc⟩ := hpp.at_ hlt
      have : InS w bb o encSli 1 pl := ⟨hpp⟩
      obtain ⟨sA, xs, sc⟩ := s
      have : GetI pl k ⟨sA, xs, sc⟩ := ⟨hsk⟩
      have hcs := catN_succ hsk
      simp only at hsl hrow hcs
      (repeat' (first | ((with_reducible refine isOps ?_); first | refine u_move rfl rfl rfl rfl rfl ?_ | refine u_assign rfl rfl rfl rfl rfl ?_ | (refine x_load rfl rfl rfl rfl rfl ?_; refine ⟨_, rfl, ?_⟩) | (refine u_cmp rfl rfl rfl rfl rfl rfl rfl (fun h => ?_) (fun h => ?_) <;> (dsimp only [cmpP] at h; (try (exfalso; omega)))) | (refine u_append (enc := encI) xs rfl rfl rfl rfl rfl (by (repeat (first | exact Take.here _ _ | apply Take.there))) rfl rfl (src_in hrow) (by refine ⟨?_, by decide⟩; (try simp only [List.length_append, List.length_cons, List.length_nil]); omega) (fun A' c' => ?_)) | refine u_add1 rfl rfl rfl rfl rfl rfl (by omega) ?_ | refine u_add rfl rfl rfl rfl rfl rfl (IntWalk.i64_in _ (by omega)) ?_ | refine u_index rfl rfl rfl rfl rfl rfl rfl (by omega) ?_ | refine u_indexA rfl rfl rfl rfl rfl rfl rfl (by first | decide | omega) ?_ | refine u_len rfl rfl rfl rfl rfl ?_) | (with_reducible first | refine u_seq ?_ | refine u_region ?_ | refine u_nil ?_ | refine u_then_n ?_ | refine u_ret ?_ | refine u_skip ?_ | refine u_then_r ?_ | refine u_end ?_ | refine u_block ?_ | refine u_exit ?_ | refine u_in_n ?_ | refine u_in_r ?_ | refine u_in_same ?_ | refine u_then_e ?_) | ((with_reducible refine u_in_other ?_ ?_); (· exact rfl)) | ((with_reducible refine u_cond_t ?_ ?_); (· exact rfl)) | ((with_reducible refine u_cond_f ?_ ?_); (· exact rfl))))
      exact u_again (k + 1, .slice A' (catN pl k ++ xs).length c') (by simp only; omega) (by simp only; omega) (by (first | exact fun _ _ h => lk_nil h | (repeat (first | exact (fun _ _ h => lk_nil h) | (refine lk_sub rfl ?_))))) (by simp only [hcs]; (repeat (first | exact Out.nil _ | (refine Out.cons (by (repeat (first | exact Take.here _ _ | apply Take.there))) ?_))))
    · obtain rfl : k = pl.length := by omega
      refine u_row_form (by (repeat (first | exact Take.here _ _ | apply Take.there))) ?_
      rintro A9 c9 rfl
      (repeat' (first | ((with_reducible refine isOps ?_); first | refine u_move rfl rfl rfl rfl rfl ?_ | refine u_assign rfl rfl rfl rfl rfl ?_ | (refine x_load rfl rfl rfl rfl rfl ?_; refine ⟨_, rfl, ?_⟩) | (refine u_cmp rfl rfl rfl rfl rfl rfl rfl (fun h => ?_) (fun h => ?_) <;> (dsimp only [cmpP] at h; (try (exfalso; omega)))) | refine u_add1 rfl rfl rfl rfl rfl rfl (by omega) ?_ | refine u_add rfl rfl rfl rfl rfl rfl (IntWalk.i64_in _ (by omega)) ?_ | refine u_index rfl rfl rfl rfl rfl rfl rfl (by omega) ?_ | refine u_indexA rfl rfl rfl rfl rfl rfl rfl (by first | decide | omega) ?_ | refine u_len rfl rfl rfl rfl rfl ?_) | (with_reducible first | refine u_seq ?_ | refine u_region ?_ | refine u_nil ?_ | refine u_then_n ?_ | refine u_ret ?_ | refine u_skip ?_ | refine u_then_r ?_ | refine u_end ?_ | refine u_block ?_ | refine u_exit ?_ | refine u_in_n ?_ | refine u_in_r ?_ | refine u_in_same ?_ | refine u_then_e ?_) | ((with_reducible refine u_in_other ?_ ?_); (· exact rfl)) | ((with_reducible refine u_cond_t ?_ ?_); (· exact rfl)) | ((with_reducible refine u_cond_f ?_ ?_); (· exact rfl))))
      exact u_done (by (exact ResL.cons (by exact Res1.tmp rfl) ResL.nil)) (A9, c9) trivial rfl (fun _ h => (h.row_sl (by (repeat (first | exact Take.here _ _ | apply Take.there)))).sub (by (repeat (first | exact Out.nil _ | (refine Out.cons (by (repeat (first | exact Take.here _ _ | apply Take.there))) ?_)))))
end Go.Proofs.YtdigopgncfhiaaaDoor
/- Ice: water. -/
namespace Go.Proofs.YtdigopgncfhiaaaDoor
open Go.RowKit
set_option linter.unusedSimpArgs false
set_option linter.unusedVariables false
set_option maxRecDepth 20000
def longI (c : Cov) (x : Int) : Sp := (c.t.getD x.toNat default).long
def waterS (c : Cov) (w : Sp) (x : Int) : Sp := ⟨w.lo + c.rate * (longI c x).lo, w.hi + c.rate * (longI c x).hi⟩
def waterF (c : Cov) (l : List Int) : Sp := l.foldl (waterS c) ⟨0, 0⟩
def waterT (c : Cov) (pl : List Sli) : Sp := if errK c pl = 0 then waterF c (catN pl pl.length) else ⟨0, 0⟩
theorem waterF_add {c : Cov} {l : List Int} {x : Int} : waterF c (l ++ [x]) = waterS c (waterF c l) x := by simp [waterF]
theorem errI_valid {c : Cov} (h : errI c = 0) : valid c.t = true := by
  unfold errI at h
  cases hv : valid c.t with
  | true => rfl
  | false => rw [hv] at h; simp at h
/-- each number of a valid plan is a stretch's -/
theorem cat_in {c : Cov} {pl : List Sli} (hp : planOk c pl = true) {x : Int} (hx : x ∈ catN pl pl.length) : ∃ k : Nat, x = (k : Int) ∧ k < c.beds.length := by
  unfold catN at hx
  rw [List.take_length, List.mem_flatMap] at hx
  obtain ⟨s, hs, hx⟩ := hx
  obtain ⟨i, hi⟩ := List.mem_iff_getElem?.1 hs
  obtain ⟨hl, hr⟩ := planOk_iff.1 hp
  have hil := (List.getElem?_eq_some_iff.1 hi).1
  have := hr i _ s (List.getElem?_eq_getElem (show i < c.hours.length by omega)) hi
  unfold rowOk at this
  simp only [Bool.and_eq_true] at this
  exact nat_in (List.all_eq_true.1 this.1.2 x hx)
theorem longI_in {c : Cov} (hv : valid c.t = true) {k : Nat} (hk : k < c.t.length) : 1 ≤ (longI c k).lo ∧ (longI c k).lo ≤ (longI c k).hi ∧ (longI c k).hi ≤ 30000 := by
  have hz : c.t[k]? = some c.t[k] := List.getElem?_eq_getElem hk
  have ho := valid_okay hv c.t[k] (List.getElem_mem hk)
  unfold longI
  rw [Int.toNat_natCast, getD_of hz]
  exact ⟨ho.l0, ho.l1, ho.l2⟩
theorem dropL_one {c : Cov} (hv : valid c.t = true) {k : Nat} (hk : k < c.t.length) : dropL c.t (k : Int) ((k : Int) + 1) = longI c k := by
  have hd : dropOk c.t (k : Int) ((k : Int) + 1) = true := by unfold dropOk; simp only [Bool.and_eq_true, inB_iff]; omega
  unfold dropL
  rw [hv, hd, Bool.and_true, if_pos rfl, Int.toNat_natCast, show ((k : Int) + 1).toNat = k + 1 by omega]
  unfold longBetween longs longI
  have hz : c.t[k]? = some c.t[k] := List.getElem?_eq_getElem hk
  rw [Int.toNat_natCast, getD_of hz, List.extract_eq_take_drop, show k + 1 - k = 1 by omega, List.take_one, List.head?_drop, List.getElem?_map, hz]
  simp [sumSp, addSp]
/-- sums stay small -/
theorem water_in {c : Cov} (hf : Fine c) (hv : valid c.t = true) : ∀ (l : List Int) (w : Sp) (m : Int), (∀ x ∈ l, ∃ k : Nat, x = (k : Int) ∧ k < c.t.length) → 0 ≤ w.lo ∧ w.lo ≤ m ∧ 0 ≤ w.hi ∧ w.hi ≤ m → 0 ≤ (l.foldl (waterS c) w).lo ∧ (l.foldl (waterS c) w).lo ≤ m + 3000000 * l.length ∧ 0 ≤ (l.foldl (waterS c) w).hi ∧ (l.foldl (waterS c) w).hi ≤ m + 3000000 * l.length
  | [], w, m, _, h => by simp only [List.foldl_nil, List.length_nil]; omega
  | x :: l, w, m, hx, h => by
    obtain ⟨k, rfl, hk⟩ := hx x (by simp)
    have h1 := longI_in hv hk
    have h2 := hf.rate
    simp only [inB_iff] at h2
    have m1 := mul_in (a := c.rate) (b := (longI c k).lo) (A := 100) (B := 30000) (by omega) (by omega) (by omega) (by omega)
    have m2 := mul_in (a := c.rate) (b := (longI c k).hi) (A := 100) (B := 30000) (by omega) (by omega) (by omega) (by omega)
    have := water_in hf hv l (waterS c w k) (m + 3000000) (fun y hy => hx y (by simp [hy])) (by simp only [waterS]; omega)
    simp only [List.foldl_cons, List.length_cons]
    omega
end Go.Proofs.YtdigopgncfhiaaaDoor
/- Ice: water, the program's. -/
namespace Go.Proofs.YtdigopgncfhiaaaDoor
open Go.RowKit
set_option linter.unusedSimpArgs false
set_option linter.unusedVariables false
set_option maxRecDepth 20000
set_option maxHeartbeats 4000000 in
theorem iWater_any (c : Cov) (A : Option Addr) (ca : Nat) (B : Option Addr) (cb : Nat) (C : Option Addr) (cc : Nat) (pl : List Sli) (P : Option Addr) (cp : Nat) (w : World) (hc : CovAt w c A B C) (hs : Small c) (hp : PlanAt w P pl) (hl : pl.length ≤ 12) (hrl : ∀ s ∈ pl, s.xs.length ≤ 20) :
    Gv Tryd.prog 32 [vCov c A ca B cb C cc, .slice P pl.length cp] w (.tuple #[vSp (waterT c pl), .int .i64 (errK c pl)]) := by
  have h1 := fun W (hb : Below w.heap.size w W) => iasked_no c A ca B cb C cc pl P cp W (hc.below hb) hs (hp.below hb) hl hrl
  have h2 := fun W (hb : Below w.heap.size w W) => iasked_ok c A ca B cb C cc pl P cp W (hc.below hb) hs (hp.below hb) hl hrl
  unfold vCov at h1 h2
  unfold Gv vCov waterT vSp
  by_cases h0 : errK c pl = 0
  · rw [if_pos h0, h0]
    obtain ⟨h00, hpl⟩ := errK_zero h0
    have hf := fine_of h00
    have hv := errI_valid h00
    have h2 := fun W hb => h2 W hb h00 hpl
    have hC := fun W (hb : Below w.heap.size w W) => concatI_any pl P cp W (hp.below hb) hl hrl
    have hin := fun x hx => cat_in (c := c) (pl := pl) hpl (x := x) hx
    have hlen := catN_len hrl pl.length (Nat.le_refl _)
    have hall : catN pl pl.length = pl.flatMap Sli.xs := by unfold catN; rw [List.take_length]
    rw [← hall] at hC
    generalize catN pl pl.length = L at *
    have hbt := hf.beds
    have hrt := hf.rate
    simp only [inB_iff] at hrt
    have hDr := fun W (hb : Below w.heap.size w W) (k : Nat) (hk : k < c.t.length) => (drop_any c.t A ca (k : Int) (((k + 1 : Nat)) : Int) W (hc.t.below hb) hs.fit (by have := hs.t; omega)).gv
    unfold vT vSp at hDr
    unfold cellsCov at h2 ⊢
    (refine ret_enter (n := 60) Tryd.func32 rfl rfl rfl ?_)
    (repeat' (first | ((with_reducible refine isOps ?_); first | refine u_move rfl rfl rfl rfl rfl ?_ | refine u_assign rfl rfl rfl rfl rfl ?_ | (refine x_load rfl rfl rfl rfl rfl ?_; refine ⟨_, rfl, ?_⟩) | refine u_field rfl rfl rfl rfl rfl ?_ | (refine u_cmp rfl rfl rfl rfl rfl rfl rfl (fun h => ?_) (fun h => ?_) <;> (dsimp only [cmpP] at h; (try (exfalso; omega)))) | (refine u_call rfl rfl rfl rfl rfl rfl (fun _ _ q => h2 _ q.below) ?_; rintro g -; dsimp only [List.cons_append, List.nil_append]) | refine u_newsl rfl rfl rfl rfl rfl rfl (fun _ _ q => hC _ q.below) (fun A' c' => ?_) | refine u_extract rfl rfl rfl rfl rfl rfl ?_ | refine u_add1 rfl rfl rfl rfl rfl rfl (by omega) ?_ | refine u_add rfl rfl rfl rfl rfl rfl (IntWalk.i64_in _ (by omega)) ?_ | refine u_mul rfl rfl rfl rfl rfl rfl (IntWalk.i64_in _ (by omega)) ?_ | refine u_index rfl rfl rfl rfl rfl rfl rfl (by omega) ?_ | refine u_indexA rfl rfl rfl rfl rfl rfl rfl (by first | decide | omega) ?_ | refine u_len rfl rfl rfl rfl rfl ?_ | (refine x_store rfl rfl rfl rfl rfl ?_; refine And.intro rfl (And.intro (by first | decide | exact Nat.le_of_ble_eq_true rfl | (simp; omega)) ⟨_, rfl, ?_⟩)) | (refine u_alloc rfl rfl rfl rfl (fun b => ?_)) | (refine u_box rfl rfl rfl rfl rfl rfl (fun b => ?_)) | (refine x_build rfl rfl rfl rfl rfl ?_; refine ⟨_, rfl, ?_⟩)) | (with_reducible first | refine u_seq ?_ | refine u_region ?_ | refine u_nil ?_ | refine u_then_n ?_ | refine u_ret ?_ | refine u_skip ?_ | refine u_then_r ?_ | refine u_end ?_ | refine u_block ?_ | refine u_exit ?_ | refine u_in_n ?_ | refine u_in_r ?_ | refine u_in_same ?_ | refine u_then_e ?_) | ((with_reducible refine u_in_other ?_ ?_); (· exact rfl)) | ((with_reducible refine u_cond_t ?_ ?_); (· exact rfl)) | ((with_reducible refine u_cond_f ?_ ?_); (· exact rfl))))
    rename_i b2 b4
    refine u_loopP (ι := Nat) [2, 4, 8, 25, 26] rfl (fun k => k ≤ L.length) (fun k => [(27, .int .i64 (k : Int))]) (fun k => [.blk b (encSp (waterF c (L.take k))), .sl encI 1 A' L, .blk b4 [.int .i64 0, .int .i64 0], .blk b2 (cellsCov c A ca B cb C cc)]) (fun k => L.length - k) 0 (Nat.zero_le _) (by (first | exact fun _ _ h => lk_nil h | (repeat (first | exact (fun _ _ h => lk_nil h) | (refine lk_sub rfl ?_))))) (by (repeat (first | exact Out.nil _ | (refine Out.cons (by (repeat (first | exact Take.here _ _ | apply Take.there))) ?_)))) ?_
    rintro k hk
    simp only [zipR, cellsCov, List.cons_append, List.nil_append]
    by_cases hlt : k < L.length
    · obtain ⟨x, hx⟩ : ∃ x, L[k]? = some x := ⟨_, List.getElem?_eq_getElem hlt⟩
      obtain ⟨i, rfl, hi⟩ := hin x (List.mem_of_getElem? hx)
      have hD := fun W hb => hDr W hb i (by omega)
      have he : dropL c.t (i : Int) (((i + 1 : Nat)) : Int) = longI c i := by rw [show (((i + 1 : Nat)) : Int) = (i : Int) + 1 by omega]; exact dropL_one hv (by omega)
      rw [he] at hD
      have h4 := hs.b
      have hli := longI_in hv (show i < c.t.length by omega)
      have hwi := water_in hf hv (L.take k) ⟨0, 0⟩ 0 (fun y hy => by obtain ⟨j, e, hj⟩ := hin y (List.mem_of_mem_take hy); exact ⟨j, e, by omega⟩) (by simp only; omega)
      have hwl : (L.take k).length ≤ 240 := by rw [List.length_take]; omega
      have hw : waterF c (L.take (k + 1)) = waterS c (waterF c (L.take k)) i := by rw [List.take_add_one, hx]; exact waterF_add
      have hwe : (L.take k).foldl (waterS c) ⟨0, 0⟩ = waterF c (L.take k) := rfl
      rw [hwe] at hwi
      have m1 := mul_in (a := c.rate) (b := (longI c i).lo) (A := 100) (B := 30000) (by omega) (by omega) (by omega) (by omega)
      have m2 := mul_in (a := c.rate) (b := (longI c i).hi) (A := 100) (B := 30000) (by omega) (by omega) (by omega) (by omega)
      generalize waterF c (L.take k) = wk at *
      have : GetI L k (i : Int) := ⟨hx⟩
      unfold encSp
      refine u_slS (by (repeat (first | exact Take.here _ _ | apply Take.there))) (by omega) ?_
      rintro bl ol rfl
      (repeat' (first | ((with_reducible refine isOps ?_); first | refine u_move rfl rfl rfl rfl rfl ?_ | refine u_assign rfl rfl rfl rfl rfl ?_ | (refine x_load rfl rfl rfl rfl rfl ?_; refine ⟨_, rfl, ?_⟩) | refine u_field rfl rfl rfl rfl rfl ?_ | (refine u_cmp rfl rfl rfl rfl rfl rfl rfl (fun h => ?_) (fun h => ?_) <;> (dsimp only [cmpP] at h; (try (exfalso; omega)))) | refine u_gives rfl rfl rfl rfl rfl rfl (fun _ _ q => hD _ q.below) ?_ | refine u_extract rfl rfl rfl rfl rfl rfl ?_ | refine u_add1 rfl rfl rfl rfl rfl rfl (by omega) ?_ | refine u_add rfl rfl rfl rfl rfl rfl (IntWalk.i64_in _ (by omega)) ?_ | refine u_mul rfl rfl rfl rfl rfl rfl (IntWalk.i64_in _ (by omega)) ?_ | refine u_index rfl rfl rfl rfl rfl rfl rfl (by omega) ?_ | refine u_indexA rfl rfl rfl rfl rfl rfl rfl (by first | decide | omega) ?_ | refine u_len rfl rfl rfl rfl rfl ?_ | (refine x_store rfl rfl rfl rfl rfl ?_; refine And.intro rfl (And.intro (by first | decide | exact Nat.le_of_ble_eq_true rfl | (simp; omega)) ⟨_, rfl, ?_⟩)) | (refine u_alloc rfl rfl rfl rfl (fun b => ?_)) | (refine u_box rfl rfl rfl rfl rfl rfl (fun b => ?_)) | (refine x_build rfl rfl rfl rfl rfl ?_; refine ⟨_, rfl, ?_⟩)) | (with_reducible first | refine u_seq ?_ | refine u_region ?_ | refine u_nil ?_ | refine u_then_n ?_ | refine u_ret ?_ | refine u_skip ?_ | refine u_then_r ?_ | refine u_end ?_ | refine u_block ?_ | refine u_exit ?_ | refine u_in_n ?_ | refine u_in_r ?_ | refine u_in_same ?_ | refine u_then_e ?_) | ((with_reducible refine u_in_other ?_ ?_); (· exact rfl)) | ((with_reducible refine u_cond_t ?_ ?_); (· exact rfl)) | ((with_reducible refine u_cond_f ?_ ?_); (· exact rfl))))
      exact u_again (k + 1) (by omega) (by omega) (by (first | exact fun _ _ h => lk_nil h | (repeat (first | exact (fun _ _ h => lk_nil h) | (refine lk_sub rfl ?_))))) (by simp only [hw, waterS]; (repeat (first | exact Out.nil _ | (refine Out.cons (by (repeat (first | exact Take.here _ _ | apply Take.there))) ?_))))
    · obtain rfl : k = L.length := by omega
      rw [List.take_length]
      (repeat' (first | ((with_reducible refine isOps ?_); first | refine u_move rfl rfl rfl rfl rfl ?_ | refine u_assign rfl rfl rfl rfl rfl ?_ | (refine x_load rfl rfl rfl rfl rfl ?_; refine ⟨_, rfl, ?_⟩) | refine u_field rfl rfl rfl rfl rfl ?_ | (refine u_cmp rfl rfl rfl rfl rfl rfl rfl (fun h => ?_) (fun h => ?_) <;> (dsimp only [cmpP] at h; (try (exfalso; omega)))) | refine u_extract rfl rfl rfl rfl rfl rfl ?_ | refine u_add1 rfl rfl rfl rfl rfl rfl (by omega) ?_ | refine u_add rfl rfl rfl rfl rfl rfl (IntWalk.i64_in _ (by omega)) ?_ | refine u_mul rfl rfl rfl rfl rfl rfl (IntWalk.i64_in _ (by omega)) ?_ | refine u_index rfl rfl rfl rfl rfl rfl rfl (by omega) ?_ | refine u_indexA rfl rfl rfl rfl rfl rfl rfl (by first | decide | omega) ?_ | refine u_len rfl rfl rfl rfl rfl ?_ | (refine x_store rfl rfl rfl rfl rfl ?_; refine And.intro rfl (And.intro (by first | decide | exact Nat.le_of_ble_eq_true rfl | (simp; omega)) ⟨_, rfl, ?_⟩)) | (refine u_alloc rfl rfl rfl rfl (fun b => ?_)) | (refine u_box rfl rfl rfl rfl rfl rfl (fun b => ?_)) | (refine x_build rfl rfl rfl rfl rfl ?_; refine ⟨_, rfl, ?_⟩)) | (with_reducible first | refine u_seq ?_ | refine u_region ?_ | refine u_nil ?_ | refine u_then_n ?_ | refine u_ret ?_ | refine u_skip ?_ | refine u_then_r ?_ | refine u_end ?_ | refine u_block ?_ | refine u_exit ?_ | refine u_in_n ?_ | refine u_in_r ?_ | refine u_in_same ?_ | refine u_then_e ?_) | ((with_reducible refine u_in_other ?_ ?_); (· exact rfl)) | ((with_reducible refine u_cond_t ?_ ?_); (· exact rfl)) | ((with_reducible refine u_cond_f ?_ ?_); (· exact rfl))))
      exact u_done (by (exact ResL.cons (by exact res1c rfl (by exact rfl)) (ResL.cons (by exact Res1.tmp rfl) ResL.nil))) () trivial rfl (fun _ h => h.sub (by (repeat (first | exact Out.nil _ | (refine Out.cons (by (repeat (first | exact Take.here _ _ | apply Take.there))) ?_)))))
  · rw [if_neg h0]
    unfold cellsCov at h1 ⊢
    generalize errK c pl = e at *
    (refine ret_enter (n := 60) Tryd.func32 rfl rfl rfl ?_)
    (repeat' (first | ((with_reducible refine isOps ?_); first | refine u_move rfl rfl rfl rfl rfl ?_ | refine u_assign rfl rfl rfl rfl rfl ?_ | (refine x_load rfl rfl rfl rfl rfl ?_; refine ⟨_, rfl, ?_⟩) | refine u_field rfl rfl rfl rfl rfl ?_ | (refine u_cmp rfl rfl rfl rfl rfl rfl rfl (fun h => ?_) (fun h => ?_) <;> (dsimp only [cmpP] at h; (try (exfalso; omega)))) | refine u_gives rfl rfl rfl rfl rfl rfl (fun _ _ q => h1 _ q.below h0) ?_ | refine u_extract rfl rfl rfl rfl rfl rfl ?_ | refine u_add1 rfl rfl rfl rfl rfl rfl (by omega) ?_ | refine u_add rfl rfl rfl rfl rfl rfl (IntWalk.i64_in _ (by omega)) ?_ | refine u_mul rfl rfl rfl rfl rfl rfl (IntWalk.i64_in _ (by omega)) ?_ | refine u_index rfl rfl rfl rfl rfl rfl rfl (by omega) ?_ | refine u_indexA rfl rfl rfl rfl rfl rfl rfl (by first | decide | omega) ?_ | refine u_len rfl rfl rfl rfl rfl ?_ | (refine x_store rfl rfl rfl rfl rfl ?_; refine And.intro rfl (And.intro (by first | decide | exact Nat.le_of_ble_eq_true rfl | (simp; omega)) ⟨_, rfl, ?_⟩)) | (refine u_alloc rfl rfl rfl rfl (fun b => ?_)) | (refine u_box rfl rfl rfl rfl rfl rfl (fun b => ?_)) | (refine x_build rfl rfl rfl rfl rfl ?_; refine ⟨_, rfl, ?_⟩)) | (with_reducible first | refine u_seq ?_ | refine u_region ?_ | refine u_nil ?_ | refine u_then_n ?_ | refine u_ret ?_ | refine u_skip ?_ | refine u_then_r ?_ | refine u_end ?_ | refine u_block ?_ | refine u_exit ?_ | refine u_in_n ?_ | refine u_in_r ?_ | refine u_in_same ?_ | refine u_then_e ?_) | ((with_reducible refine u_in_other ?_ ?_); (· exact rfl)) | ((with_reducible refine u_cond_t ?_ ?_); (· exact rfl)) | ((with_reducible refine u_cond_f ?_ ?_); (· exact rfl))))
    all_goals exact u_done (by (exact ResL.cons (by exact res1c rfl (by exact rfl)) (ResL.cons (by exact Res1.tmp rfl) ResL.nil))) () trivial rfl (fun _ h => h.sub (by (repeat (first | exact Out.nil _ | (refine Out.cons (by (repeat (first | exact Take.here _ _ | apply Take.there))) ?_)))))
end Go.Proofs.YtdigopgncfhiaaaDoor
