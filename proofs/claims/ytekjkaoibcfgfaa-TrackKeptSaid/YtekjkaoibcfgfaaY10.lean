/- tell: measures that a truth agrees with. -/
import Derived.Test.YtekjkaoibcfgfaaY9
namespace Go.Proofs.Ytekjkaoibcfgfaa
open Go.RowKit
set_option maxRecDepth 20000
set_option linter.unusedSimpArgs false
set_option linter.unusedVariables false

theorem diff_bd {l : List Int} (hb : ∀ x ∈ l, 0 ≤ x ∧ x ≤ 30000) (hl : l.length ≤ 12) {a b : Nat} (h : a ≤ b) : 0 ≤ diffM l a b ∧ diffM l a b ≤ 360000 := by
  have h1 := pre_mono hb h
  have h2 := pre_bd hb b
  have h3 := pre_bd hb a
  unfold diffM
  omega
theorem sum_x (l : List Int) (A : Option Addr) (cap : Nat) (x y : Int) (w : World) (hk : SlAt encI 1 w A l) (h0 : 0 ≤ x) (h1 : x ≤ y) (h2 : y ≤ l.length) (hc : l.length ≤ cap) (hb : ∀ x ∈ l, 0 ≤ x ∧ x ≤ 30000) (hl : l.length ≤ 100) :
    Gv Try.prog 53 [.slice A l.length cap, .int .i64 x, .int .i64 y] w (.int .i64 (diffM l x.toNat y.toNat)) := by
  obtain ⟨a, rfl⟩ := Int.eq_ofNat_of_zero_le h0
  obtain ⟨b, rfl⟩ := Int.eq_ofNat_of_zero_le (Int.le_trans h0 h1)
  have := sum_any l A cap a b w hk (by omega) (by omega) hc hb hl
  rw [sum_diff (by omega)] at this
  simpa using this
set_option maxHeartbeats 1000000 in
theorem tell_any (L F ch : List Int) (A B C : Option Addr) (ca cb cc many : Nat) (w : World) (hA : SlAt encI 1 w A L) (hB : SlAt encI 1 w B F) (hC : SlAt encU 1 w C ch) (hca : L.length ≤ ca) (hcb : F.length ≤ cb) (hf : FitC ch) (hL : 1 ≤ L.length) (h12 : L.length ≤ 12) (hF : F.length = L.length) (bL : ∀ x ∈ L, 0 ≤ x ∧ x ≤ 30000) (bF : ∀ x ∈ F, 0 ≤ x ∧ x ≤ 30000) (hm : many ≤ 12) :
    NewSl encMe 5 (tells L F ch many) (fun v => v) Try.prog 46 [.slice A L.length ca, .slice B F.length cb, .slice C ch.length cc, .int .i64 (many : Int)] w := by
  unfold NewSl
  (refine ret_enter (n := 82) Try.func46 rfl rfl rfl ?_)
  (repeat' (first | ((with_reducible refine isOps ?_); first | refine u_move rfl rfl rfl rfl rfl ?_ | refine u_assign rfl rfl rfl rfl rfl ?_) | (with_reducible first | refine u_seq ?_ | refine u_region ?_ | refine u_nil ?_ | refine u_then_n ?_ | refine u_block ?_)))
  refine u_row_nil encMe 5 73 ?_
  refine u_loop (ι := Nat × Value) (fun i => i.1 ≤ many) (fun i => [(0, .slice A L.length ca), (1, .slice B F.length cb), (2, .slice C ch.length cc), (9, i.2), (16, .int .i64 (many : Int)), (17, .int .i64 (i.1 : Int))]) (fun i => [.row encMe 5 73 i.2 (tells L F ch i.1)]) (fun i => many - i.1) (0, .slice none 0 0) (Nat.zero_le _) (by (first | exact fun _ _ h => lk_nil h | (repeat (first | exact (fun _ _ h => lk_nil h) | (refine lk_sub rfl ?_))))) (by (repeat (first | exact Out.nil _ | (refine Out.cons (by (repeat (first | exact Take.here _ _ | apply Take.there))) ?_)))) ?_
  rintro ⟨i, v⟩ hi
  simp only at hi ⊢
  have hlen := tells_len (L := L) (F := F) (ch := ch) (many := i)
  by_cases hlt : i < many
  · have hp := tell_place (ch := ch) hL i
    have h0 := (chooseI_bd hf (7 * i)).1
    have h1 := (chooseI_bd hf (7 * i + 1)).1
    have h2 := (chooseI_bd hf (7 * i + 2)).1
    have h3 := (chooseI_bd hf (7 * i + 3)).1
    have h4 := (chooseI_bd hf (7 * i + 4)).1
    have e5 := tells_succ (L := L) (F := F) (ch := ch) (i := i)
    unfold tellI tellSum tellTo tellFrm tellOdd at e5
    unfold tellTo tellFrm at hp
    (repeat' (first | ((with_reducible refine isOps ?_); first | refine u_move rfl rfl rfl rfl rfl ?_ | refine u_assign rfl rfl rfl rfl rfl ?_ | (refine u_cmp rfl rfl rfl rfl rfl rfl rfl (fun h => ?_) (fun h => ?_) <;> (dsimp only [cmpP] at h; (try (exfalso; omega)))) | refine u_gives rfl rfl rfl rfl rfl rfl (fun _ _ q => choose_any ch C cc _ (7 * i) _ (hC.below q.below) hf (by omega)) ?_ | refine u_add rfl rfl rfl rfl rfl rfl (IntWalk.i64_in _ (by omega)) ?_ | refine u_mul rfl rfl rfl rfl rfl rfl (IntWalk.i64_in _ (by omega)) ?_ | refine u_len rfl rfl rfl rfl rfl ?_ | refine u_rem rfl rfl rfl rfl rfl rfl (by omega) (by omega) ?_) | (with_reducible first | refine u_seq ?_ | refine u_region ?_ | refine u_nil ?_ | refine u_then_n ?_ | refine u_skip ?_ | refine u_block ?_) | ((with_reducible refine u_cond_t ?_ ?_); (· exact rfl))))
    generalize chooseI ch (7 * i) = y0 at *
    generalize y0 % (L.length : Int) = fr at *
    (repeat' (first | ((with_reducible refine isOps ?_); first | refine u_move rfl rfl rfl rfl rfl ?_ | refine u_assign rfl rfl rfl rfl rfl ?_ | refine u_gives rfl rfl rfl rfl rfl rfl (fun _ _ q => choose_any ch C cc _ (7 * i + 1) _ (hC.below q.below) hf (by omega)) ?_ | refine u_add rfl rfl rfl rfl rfl rfl (IntWalk.i64_in _ (by omega)) ?_ | refine u_sub rfl rfl rfl rfl rfl rfl (IntWalk.i64_in _ (by omega)) ?_ | refine u_len rfl rfl rfl rfl rfl ?_ | (refine x_store rfl rfl rfl rfl rfl ?_; refine And.intro rfl (And.intro (by first | decide | exact Nat.le_of_ble_eq_true rfl | (simp; omega)) ⟨_, rfl, ?_⟩)) | (refine u_alloc rfl rfl rfl rfl (fun b => ?_)) | (refine x_build rfl rfl rfl rfl rfl ?_; refine ⟨_, rfl, ?_⟩) | refine u_rem rfl rfl rfl rfl rfl rfl (by omega) (by omega) ?_) | (with_reducible first | refine u_seq ?_ | refine u_region ?_ | refine u_nil ?_ | refine u_then_n ?_)))
    generalize chooseI ch (7 * i + 1) = y1 at *
    generalize fr + 1 + y1 % ((L.length : Int) - fr) = to at *
    have d1 := diff_bd bL h12 (show fr.toNat ≤ to.toNat by omega)
    have d2 := diff_bd bF (by omega) (show fr.toNat ≤ to.toNat by omega)
    by_cases ho : chooseI ch (7 * i + 2) % 2 = 1
    · simp only [ho, decide_true, cond_true] at e5
      obtain ⟨me, hme⟩ : ∃ me : Me, me = ⟨2, fr, to, ⟨max 0 (diffM F fr.toNat to.toNat - chooseI ch (7 * i + 3) % 50), min 360000 (diffM F fr.toNat to.toNat + chooseI ch (7 * i + 4) % 50)⟩⟩ := ⟨_, rfl⟩
      rw [← hme] at e5
      (repeat' (first | ((with_reducible refine isOps ?_); first | refine u_move rfl rfl rfl rfl rfl ?_ | refine u_assign rfl rfl rfl rfl rfl ?_ | (refine x_load rfl rfl rfl rfl rfl ?_; refine ⟨_, rfl, ?_⟩) | refine u_field rfl rfl rfl rfl rfl ?_ | (refine u_cmp rfl rfl rfl rfl rfl rfl rfl (fun h => ?_) (fun h => ?_) <;> (dsimp only [cmpP] at h; (try (exfalso; omega)))) | refine u_gives rfl rfl rfl rfl rfl rfl (fun _ _ q => sum_x L A ca _ _ _ (hA.below q.below) (by omega) (by omega) (by omega) hca bL (by omega)) ?_ | refine u_gives rfl rfl rfl rfl rfl rfl (fun _ _ q => sum_x F B cb _ _ _ (hB.below q.below) (by omega) (by omega) (by omega) hcb bF (by omega)) ?_ | refine u_gives rfl rfl rfl rfl rfl rfl (fun _ _ q => choose_any ch C cc _ (7 * i + 2) _ (hC.below q.below) hf (by omega)) ?_ | refine u_gives rfl rfl rfl rfl rfl rfl (fun _ _ q => choose_any ch C cc _ (7 * i + 3) _ (hC.below q.below) hf (by omega)) ?_ | refine u_gives rfl rfl rfl rfl rfl rfl (fun _ _ q => choose_any ch C cc _ (7 * i + 4) _ (hC.below q.below) hf (by omega)) ?_ | refine u_gives rfl rfl rfl rfl rfl rfl (fun _ _ q => lspan_any _ _ _) ?_ | (refine u_append (enc := encMe) [me] rfl rfl rfl rfl rfl (by (repeat (first | exact Take.here _ _ | apply Take.there))) rfl rfl (src_one (enc := encMe) (by rw [hme]; exact rfl)) (by refine ⟨?_, by decide⟩; (try simp only [List.length_append, List.length_cons, List.length_nil]); omega) (fun A' c' => ?_)) | refine u_add1 rfl rfl rfl rfl rfl rfl (by omega) ?_ | refine u_add rfl rfl rfl rfl rfl rfl (IntWalk.i64_in _ (by omega)) ?_ | refine u_sub rfl rfl rfl rfl rfl rfl (IntWalk.i64_in _ (by omega)) ?_ | (refine x_store rfl rfl rfl rfl rfl ?_; refine And.intro rfl (And.intro (by first | decide | exact Nat.le_of_ble_eq_true rfl | (simp; omega)) ⟨_, rfl, ?_⟩)) | (refine x_buildSlice rfl rfl rfl rfl rfl ?_; refine ⟨rfl, _, rfl, fun b => ?_⟩) | refine u_rem rfl rfl rfl rfl rfl rfl (by omega) (by omega) ?_ | refine u_min rfl rfl rfl rfl rfl rfl ?_ | refine u_max rfl rfl rfl rfl rfl rfl ?_) | (with_reducible first | refine u_seq ?_ | refine u_region ?_ | refine u_nil ?_ | refine u_then_n ?_ | refine u_in_n ?_) | ((with_reducible refine u_cond_t ?_ ?_); (· exact rfl))))
      refine u_again (i + 1, .slice A' (tells L F ch i ++ [me]).length c') (by simp only; omega) (by simp only; omega) (by (first | exact fun _ _ h => lk_nil h | (repeat (first | exact (fun _ _ h => lk_nil h) | (refine lk_sub rfl ?_))))) ?_
      rw [e5]
      (repeat (first | exact Out.nil _ | (refine Out.cons (by (repeat (first | exact Take.here _ _ | apply Take.there))) ?_)))
    · simp only [ho, decide_false, cond_false] at e5
      obtain ⟨me, hme⟩ : ∃ me : Me, me = ⟨1, fr, to, ⟨max 0 (diffM L fr.toNat to.toNat - chooseI ch (7 * i + 3) % 50), min 360000 (diffM L fr.toNat to.toNat + chooseI ch (7 * i + 4) % 50)⟩⟩ := ⟨_, rfl⟩
      rw [← hme] at e5
      (repeat' (first | ((with_reducible refine isOps ?_); first | refine u_move rfl rfl rfl rfl rfl ?_ | refine u_assign rfl rfl rfl rfl rfl ?_ | (refine x_load rfl rfl rfl rfl rfl ?_; refine ⟨_, rfl, ?_⟩) | refine u_field rfl rfl rfl rfl rfl ?_ | (refine u_cmp rfl rfl rfl rfl rfl rfl rfl (fun h => ?_) (fun h => ?_) <;> (dsimp only [cmpP] at h; (try (exfalso; omega)))) | refine u_gives rfl rfl rfl rfl rfl rfl (fun _ _ q => sum_x L A ca _ _ _ (hA.below q.below) (by omega) (by omega) (by omega) hca bL (by omega)) ?_ | refine u_gives rfl rfl rfl rfl rfl rfl (fun _ _ q => choose_any ch C cc _ (7 * i + 2) _ (hC.below q.below) hf (by omega)) ?_ | refine u_gives rfl rfl rfl rfl rfl rfl (fun _ _ q => choose_any ch C cc _ (7 * i + 3) _ (hC.below q.below) hf (by omega)) ?_ | refine u_gives rfl rfl rfl rfl rfl rfl (fun _ _ q => choose_any ch C cc _ (7 * i + 4) _ (hC.below q.below) hf (by omega)) ?_ | refine u_gives rfl rfl rfl rfl rfl rfl (fun _ _ q => lspan_any _ _ _) ?_ | (refine u_append (enc := encMe) [me] rfl rfl rfl rfl rfl (by (repeat (first | exact Take.here _ _ | apply Take.there))) rfl rfl (src_one (enc := encMe) (by rw [hme]; exact rfl)) (by refine ⟨?_, by decide⟩; (try simp only [List.length_append, List.length_cons, List.length_nil]); omega) (fun A' c' => ?_)) | refine u_add1 rfl rfl rfl rfl rfl rfl (by omega) ?_ | refine u_add rfl rfl rfl rfl rfl rfl (IntWalk.i64_in _ (by omega)) ?_ | refine u_sub rfl rfl rfl rfl rfl rfl (IntWalk.i64_in _ (by omega)) ?_ | (refine x_store rfl rfl rfl rfl rfl ?_; refine And.intro rfl (And.intro (by first | decide | exact Nat.le_of_ble_eq_true rfl | (simp; omega)) ⟨_, rfl, ?_⟩)) | (refine x_buildSlice rfl rfl rfl rfl rfl ?_; refine ⟨rfl, _, rfl, fun b => ?_⟩) | refine u_rem rfl rfl rfl rfl rfl rfl (by omega) (by omega) ?_ | refine u_min rfl rfl rfl rfl rfl rfl ?_ | refine u_max rfl rfl rfl rfl rfl rfl ?_) | (with_reducible first | refine u_seq ?_ | refine u_region ?_ | refine u_nil ?_ | refine u_then_n ?_ | refine u_skip ?_ | refine u_in_n ?_) | ((with_reducible refine u_cond_f ?_ ?_); (· exact rfl))))
      refine u_again (i + 1, .slice A' (tells L F ch i ++ [me]).length c') (by simp only; omega) (by simp only; omega) (by (first | exact fun _ _ h => lk_nil h | (repeat (first | exact (fun _ _ h => lk_nil h) | (refine lk_sub rfl ?_))))) ?_
      rw [e5]
      (repeat (first | exact Out.nil _ | (refine Out.cons (by (repeat (first | exact Take.here _ _ | apply Take.there))) ?_)))
  · obtain rfl : i = many := by omega
    (repeat' (first | ((with_reducible refine isOps ?_); first | refine u_move rfl rfl rfl rfl rfl ?_ | refine u_assign rfl rfl rfl rfl rfl ?_ | (refine u_cmp rfl rfl rfl rfl rfl rfl rfl (fun h => ?_) (fun h => ?_) <;> (dsimp only [cmpP] at h; (try (exfalso; omega))))) | (with_reducible first | refine u_seq ?_ | refine u_region ?_ | refine u_nil ?_ | refine u_then_n ?_ | refine u_ret ?_ | refine u_exit ?_ | refine u_in_same ?_ | refine u_then_e ?_) | ((with_reducible refine u_cond_f ?_ ?_); (· exact rfl))))
    refine u_row_form (enc := encMe) (by (repeat (first | exact Take.here _ _ | apply Take.there))) ?_
    rintro A' c' rfl
    exact u_done (by (exact ResL.cons (by exact Res1.tmp rfl) ResL.nil)) (A', c') trivial rfl (fun _ h => (h.row_sl (by (repeat (first | exact Take.here _ _ | apply Take.there)))).sub (by (repeat (first | exact Out.nil _ | (refine Out.cons (by (repeat (first | exact Take.here _ _ | apply Take.there))) ?_)))))
end Go.Proofs.Ytekjkaoibcfgfaa
