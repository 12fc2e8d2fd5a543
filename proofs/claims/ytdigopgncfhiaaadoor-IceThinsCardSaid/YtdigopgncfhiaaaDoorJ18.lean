/- Ice: twins of plans; comparisons. -/
import Derived.Test.YtdigopgncfhiaaaDoorJ17
import Derived.Test.YtdigopgncfhiaaaDoorJ16
namespace Go.Proofs.YtdigopgncfhiaaaDoor
open Go.RowKit
set_option linter.unusedSimpArgs false
set_option linter.unusedVariables false
set_option maxRecDepth 20000
/-- the rows of a plan -/
def Ent.rows (l : List Sli) : Ent := ⟨fun b => ∃ s ∈ l, ∃ o, s.A = some ⟨b, o, none⟩, fun w => ∀ s ∈ l, SlAt encI 1 w s.A s.xs, fun w w' hs h hp s hm => (Ent.sl encI 1 s.A s.xs).loc w w' hs (fun b hb => h b ⟨s, hm, hb⟩) (hp s hm)⟩
theorem Own.rows_nil {base : Nat} {w : World} {H : List Ent} (h : Own base w H) : Own base w (.rows [] :: H) :=
  ⟨fun e he => by
    rcases List.mem_cons.1 he with rfl | he
    · intro s hs; cases hs
    · exact h.here e he, fun e he b hb => by
    rcases List.mem_cons.1 he with rfl | he
    · obtain ⟨s, hs, _⟩ := hb; cases hs
    · exact h.foot e he b hb, List.pairwise_cons.2 ⟨(fun f _ b hb => by obtain ⟨s, hs, _⟩ := hb; cases hs), h.apart⟩⟩
theorem Own.rows_add {base : Nat} {w : World} {H : List Ent} {A : Option Addr} {xs : List Int} {c : Nat} {l : List Sli} (h : Own base w (.sl encI 1 A xs :: .rows l :: H)) : Own base w (.rows (l ++ [⟨A, xs, c⟩]) :: H) := by
  obtain ⟨a1, a2⟩ := List.pairwise_cons.1 h.apart
  obtain ⟨a3, a4⟩ := List.pairwise_cons.1 a2
  refine ⟨fun e he => ?_, fun e he b hb => ?_, List.pairwise_cons.2 ⟨fun f hf b hb hb' => ?_, a4⟩⟩
  · rcases List.mem_cons.1 he with rfl | he
    · intro s hs
      rcases List.mem_append.1 hs with hs | hs
      · exact (h.here (.rows l) (by simp) : ∀ s ∈ l, SlAt encI 1 w s.A s.xs) s hs
      · simp only [List.mem_singleton] at hs; subst hs
        exact h.here (.sl encI 1 A xs) (by simp)
    · exact h.here e (by simp [he])
  · rcases List.mem_cons.1 he with rfl | he
    · obtain ⟨s, hs, hb⟩ := hb
      rcases List.mem_append.1 hs with hs | hs
      · exact h.foot (.rows l) (by simp) b ⟨s, hs, hb⟩
      · simp only [List.mem_singleton] at hs; subst hs
        exact h.foot (.sl encI 1 A xs) (by simp) b hb
    · exact h.foot e (by simp [he]) b hb
  · obtain ⟨s, hs, hb⟩ := hb
    rcases List.mem_append.1 hs with hs | hs
    · exact a3 f hf b ⟨s, hs, hb⟩ hb'
    · simp only [List.mem_singleton] at hs; subst hs
      exact a1 f (by simp [hf]) b hb hb'
theorem elem_sl : Elem Tryd.prog 39 33 1 24 (.slice none 0 0) :=
  ⟨by rfl, by exact ⟨_, rfl, rfl, rfl, rfl⟩, by decide, by decide⟩
instance elI_sl : ElI Tryd.prog 39 33 1 24 := ⟨⟨_, elem_sl⟩⟩
set_option maxHeartbeats 2000000 in
theorem twinPlan_any (pl : List Sli) (P : Option Addr) (cp : Nat) (w : World) (hp : PlanAt w P pl) (hl : pl.length ≤ 12) (hrl : ∀ s ∈ pl, s.xs.length ≤ 20) :
    Ret Tryd.prog 19 [.slice P pl.length cp] w (fun p : (Option Addr × Nat) × List Sli => .slice p.1.1 pl.length p.1.2) (fun p => [.sl encSli 1 p.1.1 p.2, .rows p.2]) (fun p => p.2.map Sli.xs = pl.map Sli.xs) := by
  have hpp := hp.p
  (refine ret_enter (n := 24) Tryd.func19 rfl rfl rfl ?_)
  (repeat' (first | ((with_reducible refine isOps ?_); first | refine u_move rfl rfl rfl rfl rfl ?_ | refine u_assign rfl rfl rfl rfl rfl ?_ | (refine x_load rfl rfl rfl rfl rfl ?_; refine ⟨_, rfl, ?_⟩) | (refine u_cmp rfl rfl rfl rfl rfl rfl rfl (fun h => ?_) (fun h => ?_) <;> (dsimp only [cmpP] at h; (try (exfalso; omega)))) | (refine u_buildNil encSli rfl rfl rfl rfl (fun b => ?_)) | (refine u_append (enc := encSli) pl rfl rfl rfl rfl rfl (by (repeat (first | exact Take.here _ _ | apply Take.there))) rfl rfl (src_in hpp) (by refine ⟨?_, by decide⟩; (try simp only [List.length_append, List.length_cons, List.length_nil]); omega) (fun A' c' => ?_)) | refine u_add1 rfl rfl rfl rfl rfl rfl (by omega) ?_ | refine u_add rfl rfl rfl rfl rfl rfl (IntWalk.i64_in _ (by omega)) ?_ | refine u_index rfl rfl rfl rfl rfl rfl rfl (by omega) ?_ | refine u_indexA rfl rfl rfl rfl rfl rfl rfl (by first | decide | omega) ?_ | refine u_len rfl rfl rfl rfl rfl ?_ | (refine x_store rfl rfl rfl rfl rfl ?_; refine And.intro rfl (And.intro (by first | decide | exact Nat.le_of_ble_eq_true rfl | (simp; omega)) ⟨_, rfl, ?_⟩)) | (refine x_buildSlice rfl rfl rfl rfl rfl ?_; refine ⟨rfl, _, rfl, fun b => ?_⟩)) | (with_reducible first | refine u_seq ?_ | refine u_region ?_ | refine u_nil ?_ | refine u_then_n ?_ | refine u_ret ?_ | refine u_skip ?_ | refine u_then_r ?_ | refine u_end ?_ | refine u_block ?_ | refine u_exit ?_ | refine u_in_n ?_ | refine u_in_r ?_ | refine u_in_same ?_ | refine u_then_e ?_) | ((with_reducible refine u_in_other ?_ ?_); (· exact rfl)) | ((with_reducible refine u_cond_t ?_ ?_); (· exact rfl)) | ((with_reducible refine u_cond_f ?_ ?_); (· exact rfl))))
  simp only [List.nil_append]
  by_cases h0 : pl.length = 0
  · have e : pl = [] := List.length_eq_zero_iff.1 h0
    subst e
    refine u_loopP (ι := Unit) [3] rfl (fun _ => True) (fun _ => [(4, .int .i64 0)]) (fun _ => [.row encSli 1 33 (.slice A' 0 c') []]) (fun _ => 0) () trivial (by (first | exact fun _ _ h => lk_nil h | (repeat (first | exact (fun _ _ h => lk_nil h) | (refine lk_sub rfl ?_))))) (by (repeat (first | exact Out.nil _ | (refine Out.cons (by (repeat (first | exact Take.here _ _ | apply Take.there))) ?_)))) ?_
    rintro ⟨⟩ -
    simp only [zipR, List.cons_append, List.nil_append]
    (repeat' (first | ((with_reducible refine isOps ?_); first | refine u_move rfl rfl rfl rfl rfl ?_ | refine u_assign rfl rfl rfl rfl rfl ?_ | (refine x_load rfl rfl rfl rfl rfl ?_; refine ⟨_, rfl, ?_⟩) | (refine u_cmp rfl rfl rfl rfl rfl rfl rfl (fun h => ?_) (fun h => ?_) <;> (dsimp only [cmpP] at h; (try (exfalso; omega)))) | refine u_add1 rfl rfl rfl rfl rfl rfl (by omega) ?_ | refine u_add rfl rfl rfl rfl rfl rfl (IntWalk.i64_in _ (by omega)) ?_ | refine u_index rfl rfl rfl rfl rfl rfl rfl (by omega) ?_ | refine u_indexA rfl rfl rfl rfl rfl rfl rfl (by first | decide | omega) ?_ | refine u_len rfl rfl rfl rfl rfl ?_ | (refine x_store rfl rfl rfl rfl rfl ?_; refine And.intro rfl (And.intro (by first | decide | exact Nat.le_of_ble_eq_true rfl | (simp; omega)) ⟨_, rfl, ?_⟩)) | (refine x_buildSlice rfl rfl rfl rfl rfl ?_; refine ⟨rfl, _, rfl, fun b => ?_⟩)) | (with_reducible first | refine u_seq ?_ | refine u_region ?_ | refine u_nil ?_ | refine u_then_n ?_ | refine u_ret ?_ | refine u_skip ?_ | refine u_then_r ?_ | refine u_end ?_ | refine u_block ?_ | refine u_exit ?_ | refine u_in_n ?_ | refine u_in_r ?_ | refine u_in_same ?_ | refine u_then_e ?_) | ((with_reducible refine u_in_other ?_ ?_); (· exact rfl)) | ((with_reducible refine u_cond_t ?_ ?_); (· exact rfl)) | ((with_reducible refine u_cond_f ?_ ?_); (· exact rfl))))
    exact u_done (by (exact ResL.cons (by exact Res1.tmp rfl) ResL.nil)) ((A', c'), []) rfl rfl (fun _ h => (Own.rows_nil (h.row_sl (by (repeat (first | exact Take.here _ _ | apply Take.there))))).sub (by (repeat (first | exact Out.nil _ | (refine Out.cons (by (repeat (first | exact Take.here _ _ | apply Take.there))) ?_)))))
  refine u_row_arr (by (repeat (first | exact Take.here _ _ | apply Take.there))) (by omega) ?_
  rintro g rfl
  refine u_own (fun _ h => Own.rows_nil h) ?_
  refine u_loopP (ι := Nat × List Sli) [3] rfl (fun q => q.1 ≤ pl.length ∧ q.2.map Sli.xs = (pl.take q.1).map Sli.xs) (fun q => [(4, .int .i64 (q.1 : Int))]) (fun q => [.rows q.2, .arr encSli 1 g (q.2 ++ pl.drop q.1)]) (fun q => pl.length - q.1) (0, []) ⟨Nat.zero_le _, rfl⟩ (by (first | exact fun _ _ h => lk_nil h | (repeat (first | exact (fun _ _ h => lk_nil h) | (refine lk_sub rfl ?_))))) (by (repeat (first | exact Out.nil _ | (refine Out.cons (by (repeat (first | exact Take.here _ _ | apply Take.there))) ?_)))) ?_
  rintro ⟨i, done⟩ ⟨hi, hx⟩
  simp only at hi hx
  simp only [zipR, List.cons_append, List.nil_append]
  have hdl : done.length = i := by have := congrArg List.length hx; simp at this; omega
  by_cases hlt : i < pl.length
  · obtain ⟨s, hsi⟩ : ∃ s, pl[i]? = some s := ⟨_, List.getElem?_eq_getElem hlt⟩
    have hsm := List.mem_of_getElem? hsi
    have hrow := hp.rows s hsm
    have hsl := hrl s hsm
    have hg : (done ++ pl.drop i)[i]? = some s := by rw [List.getElem?_append_right (by omega), List.getElem?_drop, hdl, show i + (i - i) = i by omega]; exact hsi
    have hset : ∀ z, (done ++ pl.drop i).set i z = (done ++ [z]) ++ pl.drop (i + 1) := fun z => by
      rw [List.set_append_right _ _ (by omega), hdl, Nat.sub_self, List.drop_eq_getElem_cons hlt, List.set_cons_zero, List.append_assoc]; rfl
    have htk : (pl.take (i + 1)).map Sli.xs = (pl.take i).map Sli.xs ++ [s.xs] := by
      rw [List.take_add_one, hsi]; simp
    have : GetI (done ++ pl.drop i) i s := ⟨hg⟩
    obtain ⟨sA, xs, sc⟩ := s
    simp only at hrow hsl htk
    (repeat' (first | ((with_reducible refine isOps ?_); first | refine u_move rfl rfl rfl rfl rfl ?_ | refine u_assign rfl rfl rfl rfl rfl ?_ | (refine x_load rfl rfl rfl rfl rfl ?_; refine ⟨_, rfl, ?_⟩) | (refine u_cmp rfl rfl rfl rfl rfl rfl rfl (fun h => ?_) (fun h => ?_) <;> (dsimp only [cmpP] at h; (try (exfalso; omega)))) | (refine u_buildNil encI (e := 3) rfl rfl rfl rfl (fun b => ?_)) | (refine u_append (enc := encI) xs rfl rfl rfl rfl rfl (by (repeat (first | exact Take.here _ _ | apply Take.there))) rfl rfl (src_in hrow) (by refine ⟨?_, by decide⟩; (try simp only [List.length_append, List.length_cons, List.length_nil]); omega) (fun A' c' => ?_)) | refine u_index (I := i) rfl rfl rfl rfl rfl rfl rfl (by omega) ?_ | refine u_storeA (enc := encSli) (j := 0) (z := ⟨sA, xs, sc⟩) ⟨A', xs, c'⟩ rfl rfl rfl rfl rfl rfl rfl rfl (by decide) ?_ | refine u_add1 rfl rfl rfl rfl rfl rfl (by omega) ?_ | refine u_add rfl rfl rfl rfl rfl rfl (IntWalk.i64_in _ (by omega)) ?_ | refine u_index rfl rfl rfl rfl rfl rfl rfl (by omega) ?_ | refine u_indexA rfl rfl rfl rfl rfl rfl rfl (by first | decide | omega) ?_ | refine u_len rfl rfl rfl rfl rfl ?_ | (refine x_store rfl rfl rfl rfl rfl ?_; refine And.intro rfl (And.intro (by first | decide | exact Nat.le_of_ble_eq_true rfl | (simp; omega)) ⟨_, rfl, ?_⟩)) | (refine x_buildSlice rfl rfl rfl rfl rfl ?_; refine ⟨rfl, _, rfl, fun b => ?_⟩)) | (with_reducible first | refine u_seq ?_ | refine u_region ?_ | refine u_nil ?_ | refine u_then_n ?_ | refine u_ret ?_ | refine u_skip ?_ | refine u_then_r ?_ | refine u_end ?_ | refine u_block ?_ | refine u_exit ?_ | refine u_in_n ?_ | refine u_in_r ?_ | refine u_in_same ?_ | refine u_then_e ?_) | ((with_reducible refine u_in_other ?_ ?_); (· exact rfl)) | ((with_reducible refine u_cond_t ?_ ?_); (· exact rfl)) | ((with_reducible refine u_cond_f ?_ ?_); (· exact rfl))))
    refine u_own (H' := .rows (done ++ [⟨A', xs, c'⟩]) :: [.arr encSli 1 g ((done ++ pl.drop i).set i ⟨A', xs, c'⟩)]) (fun W9 h => Own.rows_add ((h.row_sl (enc := encI) (by (repeat (first | exact Take.here _ _ | apply Take.there)))).sub (by (repeat (first | exact Out.nil _ | (refine Out.cons (by (repeat (first | exact Take.here _ _ | apply Take.there))) ?_)))))) ?_
    rw [hset]
    exact u_again (i + 1, done ++ [⟨A', xs, c'⟩]) ⟨by simp only; omega, by simp only [List.map_append, List.map_cons, List.map_nil]; rw [htk, hx]⟩ (by simp only; omega) (by (first | exact fun _ _ h => lk_nil h | (repeat (first | exact (fun _ _ h => lk_nil h) | (refine lk_sub rfl ?_))))) (by (repeat (first | exact Out.nil _ | (refine Out.cons (by (repeat (first | exact Take.here _ _ | apply Take.there))) ?_))))
  · obtain rfl : i = pl.length := by omega
    rw [List.drop_length, List.append_nil]
    rw [List.take_length] at hx
    (repeat' (first | ((with_reducible refine isOps ?_); first | refine u_move rfl rfl rfl rfl rfl ?_ | refine u_assign rfl rfl rfl rfl rfl ?_ | (refine x_load rfl rfl rfl rfl rfl ?_; refine ⟨_, rfl, ?_⟩) | (refine u_cmp rfl rfl rfl rfl rfl rfl rfl (fun h => ?_) (fun h => ?_) <;> (dsimp only [cmpP] at h; (try (exfalso; omega)))) | refine u_add1 rfl rfl rfl rfl rfl rfl (by omega) ?_ | refine u_add rfl rfl rfl rfl rfl rfl (IntWalk.i64_in _ (by omega)) ?_ | refine u_index rfl rfl rfl rfl rfl rfl rfl (by omega) ?_ | refine u_indexA rfl rfl rfl rfl rfl rfl rfl (by first | decide | omega) ?_ | refine u_len rfl rfl rfl rfl rfl ?_ | (refine x_store rfl rfl rfl rfl rfl ?_; refine And.intro rfl (And.intro (by first | decide | exact Nat.le_of_ble_eq_true rfl | (simp; omega)) ⟨_, rfl, ?_⟩)) | (refine x_buildSlice rfl rfl rfl rfl rfl ?_; refine ⟨rfl, _, rfl, fun b => ?_⟩)) | (with_reducible first | refine u_seq ?_ | refine u_region ?_ | refine u_nil ?_ | refine u_then_n ?_ | refine u_ret ?_ | refine u_skip ?_ | refine u_then_r ?_ | refine u_end ?_ | refine u_block ?_ | refine u_exit ?_ | refine u_in_n ?_ | refine u_in_r ?_ | refine u_in_same ?_ | refine u_then_e ?_) | ((with_reducible refine u_in_other ?_ ?_); (· exact rfl)) | ((with_reducible refine u_cond_t ?_ ?_); (· exact rfl)) | ((with_reducible refine u_cond_f ?_ ?_); (· exact rfl))))
    exact u_done (by (exact ResL.cons (by exact Res1.tmp rfl) ResL.nil)) ((some ⟨g, 0, none⟩, c'), done) hx rfl (fun _ h => ((Own.arr_sl (by (repeat (first | exact Take.here _ _ | apply Take.there))) h).sub (by (repeat (first | exact Out.nil _ | (refine Out.cons (by (repeat (first | exact Take.here _ _ | apply Take.there))) ?_))))))
/-! ### comparisons -/
theorem getD_xs {pl pl' : List Sli} (h : pl.map Sli.xs = pl'.map Sli.xs) (i : Nat) : (pl.getD i default).xs = (pl'.getD i default).xs := by
  have e : ∀ l : List Sli, (l.getD i default).xs = (l.map Sli.xs).getD i [] := fun l => by
    simp only [List.getD_eq_getElem?_getD, List.getElem?_map]
    cases l[i]? <;> rfl
  rw [e, e, h]
theorem thickN_congr {c : Cov} {pl pl' : List Sli} (h : pl.map Sli.xs = pl'.map Sli.xs) {z : Bed} {i : Int} : ∀ k, thickN c pl z i k = thickN c pl' z i k
  | 0 => rfl
  | k + 1 => by simp only [thickN]; rw [thickN_congr h k, getD_xs h]
theorem planOk_congr {c : Cov} {pl pl' : List Sli} (h : pl.map Sli.xs = pl'.map Sli.xs) : planOk c pl = planOk c pl' := by
  have hl : pl.length = pl'.length := by have := congrArg List.length h; simpa using this
  unfold planOk
  rw [hl]
  congr 2
  funext i
  unfold rowOk
  rw [getD_xs h]
theorem errK_congr {c : Cov} {pl pl' : List Sli} (h : pl.map Sli.xs = pl'.map Sli.xs) : errK c pl = errK c pl' := by unfold errK; rw [planOk_congr h]
theorem thickT_congr {c : Cov} {pl pl' : List Sli} (h : pl.map Sli.xs = pl'.map Sli.xs) {i k : Int} : thickT c pl i k = thickT c pl' i k := by unfold thickT; rw [errK_congr h, thickN_congr h]
theorem tooThin_congr {c : Cov} {pl pl' : List Sli} (h : pl.map Sli.xs = pl'.map Sli.xs) {en : Sp → Sp → Int} : tooThin c pl en = tooThin c pl' en := by
  funext z i k
  unfold tooThin; rw [thickN_congr h]
theorem thinS_congr {c : Cov} {pl pl' : List Sli} (h : pl.map Sli.xs = pl'.map Sli.xs) {en : Sp → Sp → Int} : thinS c pl en = thinS c pl' en := by unfold thinS; rw [tooThin_congr h]
theorem bearsB_congr {c : Cov} {pl pl' : List Sli} (h : pl.map Sli.xs = pl'.map Sli.xs) {J : Nat} {n : Int} : bearsB c pl J n = bearsB c pl' J n := by unfold bearsB; rw [thinS_congr h]
theorem bestN_congr {c : Cov} {pl pl' : List Sli} (h : pl.map Sli.xs = pl'.map Sli.xs) {J : Nat} : ∀ k, bestN c pl J k = bestN c pl' J k
  | 0 => rfl
  | k + 1 => by simp only [bestN, bearsB_congr h, bestN_congr h k]
theorem mostT_congr {c : Cov} {pl pl' : List Sli} (h : pl.map Sli.xs = pl'.map Sli.xs) {k : Int} : mostT c pl k = mostT c pl' k := by unfold mostT; rw [errK_congr h, bestN_congr h]
end Go.Proofs.YtdigopgncfhiaaaDoor
