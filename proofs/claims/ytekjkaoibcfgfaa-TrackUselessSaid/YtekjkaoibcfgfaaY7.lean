/- narrower. -/
import Derived.Test.YtekjkaoibcfgfaaZ1
namespace Go.Proofs.Ytekjkaoibcfgfaa
open Go.RowKit
set_option maxRecDepth 20000
set_option linter.unusedSimpArgs false
set_option linter.unusedVariables false

set_option maxHeartbeats 1000000 in
theorem narrower_yes (x y : List St) (A B : Option Addr) (ca cb : Nat) (w : World) (ha : SlAt encSt 9 w A x) (hb : SlAt encSt 9 w B y) (hn : NarT x y) (hl : x.length ≤ 1000) :
    Gv Try.prog 52 [.agg #[.slice A x.length ca], .agg #[.slice B y.length cb]] w (.bool true) := by
  unfold Gv
  obtain ⟨hlen, hn⟩ := hn
  (refine ret_enter (n := 63) Try.func52 rfl rfl rfl ?_)
  (repeat' (first | ((with_reducible refine isOps ?_); first | refine u_move rfl rfl rfl rfl rfl ?_ | refine u_assign rfl rfl rfl rfl rfl ?_ | (refine x_load rfl rfl rfl rfl rfl ?_; refine ⟨_, rfl, ?_⟩) | refine u_field rfl rfl rfl rfl rfl ?_ | (refine u_cmp rfl rfl rfl rfl rfl rfl rfl (fun h => ?_) (fun h => ?_) <;> (dsimp only [cmpP] at h; (try (exfalso; omega)))) | refine u_len rfl rfl rfl rfl rfl ?_ | (refine u_box rfl rfl rfl rfl rfl rfl (fun b => ?_))) | (with_reducible first | refine u_seq ?_ | refine u_region ?_ | refine u_nil ?_ | refine u_then_n ?_ | refine u_skip ?_ | refine u_block ?_) | ((with_reducible refine u_cond_f ?_ ?_); (· exact rfl))))
  rename_i b2
  obtain ⟨b3, hb3⟩ : ∃ z, z = b := ⟨b, rfl⟩
  subst hb3
  refine u_loop (ι := Nat) (fun i => i ≤ x.length) (fun i => [(2, .pointer (some ⟨b2, 0, none⟩)), (3, .pointer (some ⟨b3, 0, none⟩)), (16, .slice A x.length ca), (17, .int .i64 (x.length : Int)), (18, .int .i64 (i : Int))]) (fun _ => [.blk b3 [.slice B y.length cb], .blk b2 [.slice A x.length ca]]) (fun i => x.length - i) 0 (Nat.zero_le _) (by (first | exact fun _ _ h => lk_nil h | (repeat (first | exact (fun _ _ h => lk_nil h) | (refine lk_sub rfl ?_))))) (by (repeat (first | exact Out.nil _ | (refine Out.cons (by (repeat (first | exact Take.here _ _ | apply Take.there))) ?_)))) ?_
  intro i hi
  by_cases hlt : i < x.length
  · have hlt2 : i < y.length := by omega
    obtain ⟨ba, oa, rfl, _⟩ := ha.at_ hlt
    obtain ⟨bb, ob, rfl, _⟩ := hb.at_ hlt2
    have : InS w ba oa encSt 9 x := ⟨ha⟩
    have : InS w bb ob encSt 9 y := ⟨hb⟩
    have hx : x[i]? = some x[i] := by simp
    have hy : y[i]? = some y[i] := by simp
    have hni := hn i _ _ hx hy
    generalize x[i] = p at *
    generalize y[i] = q at *
    have : GetI x i p := ⟨hx⟩
    have : GetI y i q := ⟨hy⟩
    (repeat' (first | ((with_reducible refine isOps ?_); first | refine u_move rfl rfl rfl rfl rfl ?_ | refine u_assign rfl rfl rfl rfl rfl ?_ | (refine x_load rfl rfl rfl rfl rfl ?_; refine ⟨_, rfl, ?_⟩) | refine u_field rfl rfl rfl rfl rfl ?_ | refine u_pick rfl rfl rfl rfl rfl rfl ?_ | (refine u_cmp rfl rfl rfl rfl rfl rfl rfl (fun h => ?_) (fun h => ?_) <;> (dsimp only [cmpP] at h; (try (exfalso; omega)))) | refine u_add1 rfl rfl rfl rfl rfl rfl (by omega) ?_ | refine u_index rfl rfl rfl rfl rfl rfl rfl (by omega) ?_ | (refine x_store rfl rfl rfl rfl rfl ?_; refine And.intro rfl (And.intro (by first | decide | exact Nat.le_of_ble_eq_true rfl | (simp; omega)) ⟨_, rfl, ?_⟩)) | (refine u_alloc rfl rfl rfl rfl (fun b => ?_))) | (with_reducible first | refine u_seq ?_ | refine u_region ?_ | refine u_nil ?_ | refine u_then_n ?_ | refine u_skip ?_ | refine u_block ?_ | refine u_in_n ?_) | ((with_reducible refine u_cond_t ?_ ?_); (· exact rfl)) | ((with_reducible refine u_cond_f ?_ ?_); (· exact rfl))))
    exact u_again (i + 1) (by omega) (by omega) (by (first | exact fun _ _ h => lk_nil h | (repeat (first | exact (fun _ _ h => lk_nil h) | (refine lk_sub rfl ?_))))) (by (repeat (first | exact Out.nil _ | (refine Out.cons (by (repeat (first | exact Take.here _ _ | apply Take.there))) ?_))))
  · obtain rfl : i = x.length := by omega
    (repeat' (first | ((with_reducible refine isOps ?_); first | refine u_assign rfl rfl rfl rfl rfl ?_ | (refine u_cmp rfl rfl rfl rfl rfl rfl rfl (fun h => ?_) (fun h => ?_) <;> (dsimp only [cmpP] at h; (try (exfalso; omega))))) | (with_reducible first | refine u_seq ?_ | refine u_region ?_ | refine u_nil ?_ | refine u_then_n ?_ | refine u_ret ?_ | refine u_exit ?_ | refine u_in_same ?_ | refine u_then_e ?_) | ((with_reducible refine u_cond_f ?_ ?_); (· exact rfl))))
    exact u_done (by (exact ResL.cons (by exact Res1.tmp rfl) ResL.nil)) () trivial rfl (fun _ h => h.sub (by (repeat (first | exact Out.nil _ | (refine Out.cons (by (repeat (first | exact Take.here _ _ | apply Take.there))) ?_)))))
theorem fit_valid {t : List St} (h : valid t = true) : FitT t := by
  simp only [valid, Bool.and_eq_true] at h
  have : ∀ (t : List St) (last : Int), okFrom last t = true → ∀ s ∈ t, 0 ≤ s.side ∧ s.side ≤ 255 := by
    intro t
    induction t with
    | nil => intro _ _ s hs; cases hs
    | cons x r ih =>
      intro last h s hs
      simp only [okFrom, Bool.and_eq_true] at h
      rcases List.mem_cons.1 hs with rfl | hs
      · have h1 := h.1
        simp only [stOk, Bool.and_eq_true, Bool.or_eq_true, decide_eq_true_eq, inB_iff] at h1
        rcases h1.2 with h2 | h2
        · omega
        · omega
      · exact ih _ h.2 s hs
  exact this t _ h.2
end Go.Proofs.Ytekjkaoibcfgfaa
