/- Spots by choices; the law TrackApart returns true. -/
import Derived.Test.YtekjkaoibcfgfaaY9
import Derived.Test.YtekjkaoibcfgfaaZ8
namespace Go.Proofs.Ytekjkaoibcfgfaa
open Go.RowKit
set_option maxRecDepth 20000
set_option linter.unusedSimpArgs false
set_option linter.unusedVariables false

theorem spot_any (t : List St) (A : Option Addr) (ca : Nat) (ch : List Int) (C : Option Addr) (cc : Nat) (x : Int) (i : Nat) (w : World) (ht : SlAt encSt 9 w A t) (hk : SlAt encU 1 w C ch) (hv : valid t = true) (hf : FitC ch) (hx : x = i) (hi : i ≤ 1000) :
    Gv Try.prog 54 [.agg #[.slice A t.length ca], .slice C ch.length cc, .int .i64 x] w (vSpot (spotI t ch i)) := by
  subst hx
  unfold Gv vSpot
  have hl := valid_len hv
  have ho := valid_okay hv
  obtain ⟨k, hkk⟩ : ∃ k : Nat, chooseI ch i % (t.length : Int) = k := Int.eq_ofNat_of_zero_le (Int.emod_nonneg _ (by omega))
  have hkl : k < t.length := by
    have := Int.emod_lt_of_pos (chooseI ch i) (show (0 : Int) < t.length by omega)
    omega
  have hz : t[k]? = some t[k] := List.getElem?_eq_getElem hkl
  have hok := ho _ (List.getElem_mem hkl)
  have hs : spotI t ch i = ⟨k, ⟨chooseI ch (i + 1) % t[k].long.lo, chooseI ch (i + 1) % t[k].long.lo + chooseI ch (i + 2) % (t[k].long.lo - chooseI ch (i + 1) % t[k].long.lo)⟩⟩ := by
    unfold spotI
    rw [hkk, Int.toNat_natCast, show t.getD k default = t[k] by simp [hkl]]
  rw [hs]
  have h0 := (chooseI_bd hf i).1
  have h1 := (chooseI_bd hf (i + 1)).1
  have h2 := (chooseI_bd hf (i + 2)).1
  have a1 := hok.l0; have a2 := hok.l1; have a3 := hok.l2
  have b1 := Int.emod_nonneg (chooseI ch (i + 1)) (show t[k].long.lo ≠ 0 by omega)
  have b2 := Int.emod_lt_of_pos (chooseI ch (i + 1)) (show 0 < t[k].long.lo by omega)
  have b3 := Int.emod_nonneg (chooseI ch (i + 2)) (show t[k].long.lo - chooseI ch (i + 1) % t[k].long.lo ≠ 0 by omega)
  have b4 := Int.emod_lt_of_pos (chooseI ch (i + 2)) (show 0 < t[k].long.lo - chooseI ch (i + 1) % t[k].long.lo by omega)
  generalize t[k] = z at *
  obtain ⟨ba, oa, rfl, _⟩ := ht.at_ hkl
  have : InS w ba oa encSt 9 t := ⟨ht⟩
  have : GetI t k z := ⟨hz⟩
  (refine ret_enter (n := 48) Try.func54 rfl rfl rfl ?_)
  (repeat' (first | ((with_reducible refine isOps ?_); first | (refine u_alloc rfl rfl rfl rfl (fun b => ?_)) | (refine u_box rfl rfl rfl rfl rfl rfl (fun b => ?_))) | (with_reducible first | refine u_seq ?_ | refine u_region ?_ | refine u_nil ?_ | refine u_then_n ?_)))
  (refine u_chain (by kernel_rfl) [[], [false], [true, true], [false, false, false], [true, false, false, false], [true, true, false, false, false], [true, true, true, true, true, true], [true, true, true, true, true, true, true]] (by kernel_rfl) (by kernel_rfl) ?_)
  (repeat' (first | (((with_reducible refine c_go ?_ ?_); (· exact rfl); refine ⟨_, fun G => (by (try simp only [fltT, entsT, List.nil_append, List.cons_append]); rfl), ?_⟩); first | refine c_val _ (fun _ => e_move rfl rfl) (fun _ => rfl) rfl (by first | exact fun _ _ _ => rfl | (intro G G' h; simp (decide := true) only [h])) ?_ | refine c_val _ (fun _ => e_load' rfl rfl (by exact rfl)) (fun _ => rfl) rfl (by first | exact fun _ _ _ => rfl | (intro G G' h; simp (decide := true) only [h])) ?_ | refine c_val _ (fun _ => e_field rfl rfl) (fun _ => rfl) rfl (by first | exact fun _ _ _ => rfl | (intro G G' h; simp (decide := true) only [h])) ?_ | refine c_val _ (fun _ => e_assign rfl rfl) (fun _ => rfl) rfl (by first | exact fun _ _ _ => rfl | (intro G G' h; simp (decide := true) only [h])) ?_ | refine c_gives _ rfl (fun _ => rfl) rfl (fun _ => rfl) (fun _ => rfl) (fun _ _ _ q => choose_any ch C cc _ i _ (hk.below q.below) hf rfl) (by first | exact fun _ _ _ => rfl | (intro G G' h; simp (decide := true) only [h])) ?_ | refine c_val _ (fun _ => e_remN k rfl rfl rfl (by omega) (by omega) hkk) (fun _ => rfl) rfl (by exact fun _ _ _ => rfl) ?_ | refine c_val _ (fun _ => e_len rfl rfl) (fun _ => rfl) rfl (by first | exact fun _ _ _ => rfl | (intro G G' h; simp (decide := true) only [h])) ?_) | (with_reducible refine c_nil ?_)))
  (intro G; simp only [regsT, entsT, Pend.at_none, List.nil_append, List.cons_append])
  (repeat' (first | (with_reducible first | refine u_seq ?_ | refine u_then_n ?_)))
  (refine u_chain (by kernel_rfl) [[], [false], [true, false], [true, true, true], [false, false, false, false], [true, false, false, false, false], [false, false, false, false, false, false], [true, true, true, false, false, false, false], [true, true, true, true, false, false, false, false], [true, true, true, true, true, false, false, false, false], [true, true, true, true, true, true, false, false, false, false], [true, true, true, true, true, true, true, true, true, true, true], [true, true, true, true, true, true, true, true, true, true, true, true]] (by kernel_rfl) (by kernel_rfl) ?_)
  (repeat' (first | (((with_reducible refine c_go ?_ ?_); (· exact rfl); refine ⟨_, fun G => (by (try simp only [fltT, entsT, List.nil_append, List.cons_append]); rfl), ?_⟩); first | refine c_val _ (fun _ => e_move rfl rfl) (fun _ => rfl) rfl (by first | exact fun _ _ _ => rfl | (intro G G' h; simp (decide := true) only [h])) ?_ | refine c_val _ (fun _ => e_load' rfl rfl (by exact rfl)) (fun _ => rfl) rfl (by first | exact fun _ _ _ => rfl | (intro G G' h; simp (decide := true) only [h])) ?_ | refine c_val _ (fun _ => e_field rfl rfl) (fun _ => rfl) rfl (by first | exact fun _ _ _ => rfl | (intro G G' h; simp (decide := true) only [h])) ?_ | refine c_val _ (fun _ => e_assign rfl rfl) (fun _ => rfl) rfl (by first | exact fun _ _ _ => rfl | (intro G G' h; simp (decide := true) only [h])) ?_ | refine c_gives _ rfl (fun _ => rfl) rfl (fun _ => rfl) (fun _ => rfl) (fun _ _ _ q => choose_any ch C cc _ (i + 1) _ (hk.below q.below) hf (by omega)) (by first | exact fun _ _ _ => rfl | (intro G G' h; simp (decide := true) only [h])) ?_ | refine c_val _ (fun _ => e_add1 rfl rfl rfl (by omega)) (fun _ => rfl) rfl (by first | exact fun _ _ _ => rfl | (intro G G' h; simp (decide := true) only [h])) ?_ | refine c_val _ (fun _ => e_index rfl rfl rfl rfl (by omega)) (fun _ => rfl) rfl (by first | exact fun _ _ _ => rfl | (intro G G' h; simp (decide := true) only [h])) ?_ | refine c_val _ (fun _ => e_rem rfl rfl rfl (by omega) (by omega)) (fun _ => rfl) rfl (by first | exact fun _ _ _ => rfl | (intro G G' h; simp (decide := true) only [h])) ?_) | (with_reducible refine c_nil ?_)))
  (intro G; simp only [regsT, entsT, Pend.at_none, List.nil_append, List.cons_append])
  (repeat' (first | (with_reducible first | refine u_seq ?_ | refine u_then_n ?_)))
  (refine u_chain (by kernel_rfl) [[], [false], [false, false], [false, false, false], [false, false, false, false], [true, false, false, false, false], [true, true, true, false, false, false], [false, false, false, false, false, false, false], [true, false, false, false, false, false, false, false], [false, false, false, false, false, false, false, false, false], [true, true, true, false, false, false, false, false, false, false], [true, true, true, true, false, false, false, false, false, false, false], [true, true, true, true, true, false, false, false, false, false, false, false], [true, true, true, true, true, true, false, false, false, false, false, false, false], [false, false, false, false, false, false, false, false, false, false, false, false, false, false], [true, true, true, true, true, true, true, true, false, false, false, false, false, false, false], [true, true, true, true, true, true, true, true, true, true, true, true, true, false, false, false], [true, true, true, true, true, true, true, true, true, true, true, true, true, true, true, false, false], [true, true, true, true, true, true, true, true, true, true, true, true, true, true, true, true, true, false], [true, true, true, true, true, true, true, true, true, true, true, true, true, true, true, true, true, true, true], [true, true, true, true, true, true, true, true, true, true, true, true, true, true, true, true, true, true, true, true]] (by kernel_rfl) (by kernel_rfl) ?_)
  (repeat' (first | (((with_reducible refine c_go ?_ ?_); (· exact rfl); refine ⟨_, fun G => (by (try simp only [fltT, entsT, List.nil_append, List.cons_append]); rfl), ?_⟩); first | refine c_val _ (fun _ => e_move rfl rfl) (fun _ => rfl) rfl (by first | exact fun _ _ _ => rfl | (intro G G' h; simp (decide := true) only [h])) ?_ | refine c_val _ (fun _ => e_load' rfl rfl (by exact rfl)) (fun _ => rfl) rfl (by first | exact fun _ _ _ => rfl | (intro G G' h; simp (decide := true) only [h])) ?_ | refine c_val _ (fun _ => e_field rfl rfl) (fun _ => rfl) rfl (by first | exact fun _ _ _ => rfl | (intro G G' h; simp (decide := true) only [h])) ?_ | refine c_gives _ rfl (fun _ => rfl) rfl (fun _ => rfl) (fun _ => rfl) (fun _ _ _ q => choose_any ch C cc _ (i + 2) _ (hk.below q.below) hf (by omega)) (by first | exact fun _ _ _ => rfl | (intro G G' h; simp (decide := true) only [h])) ?_ | refine c_gives _ rfl (fun _ => rfl) rfl (fun _ => rfl) (fun _ => rfl) (fun _ _ _ q => lspan_any _ _ _) (by first | exact fun _ _ _ => rfl | (intro G G' h; simp (decide := true) only [h])) ?_ | refine c_val _ (fun _ => e_add rfl rfl rfl (IntWalk.i64_in _ (by omega))) (fun _ => rfl) rfl (by first | exact fun _ _ _ => rfl | (intro G G' h; simp (decide := true) only [h])) ?_ | refine c_val _ (fun _ => e_sub rfl rfl rfl (IntWalk.i64_in _ (by omega))) (fun _ => rfl) rfl (by first | exact fun _ _ _ => rfl | (intro G G' h; simp (decide := true) only [h])) ?_ | refine c_val _ (fun _ => e_index rfl rfl rfl rfl (by omega)) (fun _ => rfl) rfl (by first | exact fun _ _ _ => rfl | (intro G G' h; simp (decide := true) only [h])) ?_ | refine c_val _ (fun _ => e_rem rfl rfl rfl (by omega) (by omega)) (fun _ => rfl) rfl (by first | exact fun _ _ _ => rfl | (intro G G' h; simp (decide := true) only [h])) ?_ | refine c_val _ (fun _ => e_build' rfl rfl (by exact rfl)) (fun _ => rfl) rfl (by first | exact fun _ _ _ => rfl | (intro G G' h; simp (decide := true) only [h])) ?_) | ((with_reducible refine c_tail ?_ ?_); (· exact rfl))))
  all_goals
    (intro G; simp only [regsT, entsT, Pend.at_none, List.nil_append, List.cons_append])
    (repeat' (first | ((with_reducible refine isOps ?_); first | (refine x_store rfl rfl rfl rfl rfl ?_; refine And.intro rfl (And.intro (by first | decide | exact Nat.le_of_ble_eq_true rfl | (simp; omega)) ⟨_, rfl, ?_⟩))) | (with_reducible first | refine u_nil ?_ | refine u_then_n ?_ | refine u_ret ?_)))
    exact u_done (by (exact ResL.cons (by exact res1c rfl (by exact rfl)) ResL.nil)) () trivial rfl (fun _ h => h.sub (by (repeat (first | exact Out.nil _ | (refine Out.cons (by (repeat (first | exact Take.here _ _ | apply Take.there))) ?_)))))
end Go.Proofs.Ytekjkaoibcfgfaa
