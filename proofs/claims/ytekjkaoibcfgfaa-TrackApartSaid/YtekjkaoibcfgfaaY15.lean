/- The law TrackApart returns true. -/
import Derived.Test.YtekjkaoibcfgfaaY14
namespace Go.Proofs.Ytekjkaoibcfgfaa
open Go.RowKit
set_option maxRecDepth 20000
set_option linter.unusedSimpArgs false
set_option linter.unusedVariables false

theorem farM_lo {s : List Sp} (h : okSps s) {i k : Nat} (hi : i ≤ 13) (hk : k ≤ 13) : -390000 ≤ farM s i k := by
  unfold farM
  split
  · have := sum_wide' h (show i ≤ k by omega); omega
  · have := sum_wide' h (show k ≤ i by omega); omega
theorem apT_near {t : List St} {a b : Spot} (hv : valid t = true) (ha : spotOk t a = true) (hb : spotOk t b = true) : -1000000 ≤ (apT t a b).lo ∧ (apT t a b).lo ≤ 1000000 ∧ -1000000 ≤ (apT t a b).hi ∧ (apT t a b).hi ≤ 1000000 := by
  have hl := valid_len hv
  have ok := okSps_longs (valid_okay hv)
  obtain ⟨a1, a2, a3, a4⟩ := spotOk_at ha
  obtain ⟨b1, b2, b3, b4⟩ := spotOk_at hb
  have a5 := spotOk_bd ha (valid_okay hv)
  have b5 := spotOk_bd hb (valid_okay hv)
  rw [apT_eq hv ha hb]
  have h1 := farM_bd ok (i := b.st.toNat) (k := a.st.toNat) (by omega) (by omega)
  have h2 := farM_lo ok (i := b.st.toNat) (k := a.st.toNat) (by omega) (by omega)
  have h3 := farM_bd ok (i := a.st.toNat) (k := b.st.toNat) (by omega) (by omega)
  have h4 := farM_lo ok (i := a.st.toNat) (k := b.st.toNat) (by omega) (by omega)
  simp only
  omega
theorem atT_near {t : List St} {a : Spot} (hv : valid t = true) (ha : spotOk t a = true) : 0 ≤ (atT t a).lo ∧ (atT t a).lo ≤ 1000000 ∧ 0 ≤ (atT t a).hi ∧ (atT t a).hi ≤ 1000000 := by
  have hl := valid_len hv
  obtain ⟨a1, a2, a3, a4⟩ := spotOk_at ha
  have a5 := spotOk_bd ha (valid_okay hv)
  have e : atT t a = addSp (mark t a.st.toNat) a.off := by unfold atT; rw [hv, ha]; rfl
  have h := between_bd (valid_okay hv) (Nat.zero_le a.st.toNat) (show a.st.toNat ≤ t.length by omega)
  rw [e]
  unfold addSp mark
  simp only
  omega

set_option maxHeartbeats 4000000 in
theorem trackApart_any (t : List St) (A : Option Addr) (ca : Nat) (ch : List Int) (C : Option Addr) (cc : Nat) (w : World) (ha : SlAt encSt 9 w A t) (hC : SlAt encU 1 w C ch) (fa : FitT t) (hf : FitC ch) :
    Gv Try.prog 12 [.agg #[.slice A t.length ca], .slice C ch.length cc] w (.bool true) := by
  unfold Gv
  have hR := fun W (h : Below w.heap.size w W) => ready_any t A ca W (ha.below h) fa
  cases hr : readyB t
  · rw [hr] at hR
    (refine ret_enter (n := 198) Try.func12 rfl rfl rfl ?_)
    (repeat' (first | ((with_reducible refine isOps ?_); first | refine u_move rfl rfl rfl rfl rfl ?_ | refine u_assign rfl rfl rfl rfl rfl ?_ | (refine x_load rfl rfl rfl rfl rfl ?_; refine ⟨_, rfl, ?_⟩) | refine u_pick rfl rfl rfl rfl rfl rfl ?_ | refine u_not_wanted rfl rfl rfl ?_ | refine u_gives rfl rfl rfl rfl rfl rfl (fun _ _ q => alive_any _) ?_ | refine u_gives rfl rfl rfl rfl rfl rfl (fun _ _ q => hR _ q.below) ?_ | refine u_not rfl rfl rfl rfl rfl ?_ | (refine u_box rfl rfl rfl rfl rfl rfl (fun b => ?_))) | (with_reducible first | refine u_seq ?_ | refine u_region ?_ | refine u_nil ?_ | refine u_then_n ?_ | refine u_ret ?_ | refine u_then_r ?_) | ((with_reducible refine u_cond_t ?_ ?_); (· exact rfl))))
    all_goals exact u_done (by (exact ResL.cons (by exact Res1.tmp rfl) ResL.nil)) () trivial rfl (fun _ h => h.sub (by (repeat (first | exact Out.nil _ | (refine Out.cons (by (repeat (first | exact Take.here _ _ | apply Take.there))) ?_)))))
  rw [hr] at hR
  have hv := readyB_ok hr
  have hlen := valid_len hv
  have ho := valid_okay hv
  have hT := fun W (h : Below w.heap.size w W) => Two.truth_any t A ca ch C cc W (ha.below h) (hC.below h) ho hf (by omega)
  obtain ⟨f1, f2, f3, f4, f5⟩ := truth_facts (ch := ch) hv
  have g1 := truthL_in (ch := ch) ho
  have hl := truthL_len (t := t) (ch := ch)
  have s1 := spotI_ok (ch := ch) hv 0
  have s2 := spotI_ok (ch := ch) hv 3
  have s3 := spotI_ok (ch := ch) hv 6
  have hS1 := fun W (h : Below w.heap.size w W) => spot_any t A ca ch C cc 0 0 W (ha.below h) (hC.below h) hv hf rfl (by omega)
  have hS2 := fun W (h : Below w.heap.size w W) => spot_any t A ca ch C cc 3 3 W (ha.below h) (hC.below h) hv hf rfl (by omega)
  have hS3 := fun W (h : Below w.heap.size w W) => spot_any t A ca ch C cc 6 6 W (ha.below h) (hC.below h) hv hf rfl (by omega)
  generalize truthL t ch = L at *
  generalize truthF t ch = F at *
  generalize spotI t ch 0 = a at *
  generalize spotI t ch 3 = b at *
  generalize spotI t ch 6 = c at *
  have p1 := (chooseI_bd hf 50).1
  have p2 := (chooseI_bd hf 51).1
  obtain ⟨a1, a2, a3, a4⟩ := spotOk_at s1
  obtain ⟨b1, b2, b3, b4⟩ := spotOk_at s2
  have a5 := spotOk_bd s1 ho
  have b5 := spotOk_bd s2 ho
  have x1 := someI_in (s := a.off) (by omega) (chooseI ch 50)
  have y1 := someI_in (s := b.off) (by omega) (chooseI ch 51)
  obtain ⟨F1, F2, F3, F4, F5, F6, F7, F8⟩ := apart_facts hv s1 s2 s3 g1 x1 y1
  have n1 := apT_near hv s1 s2
  have n3 := apT_near hv s1 s3
  have n4 := apT_near hv s3 s2
  have n5 := atT_near hv s1
  have n6 := atT_near hv s2
  have e1 : errB t a b = 0 := by simp [errB, hv, s1, s2]
  have e2 : errB t b a = 0 := by simp [errB, hv, s1, s2]
  have e3 : errB t a c = 0 := by simp [errB, hv, s1, s3]
  have e4 : errB t c b = 0 := by simp [errB, hv, s3, s2]
  have e5 : errA t a = 0 := by simp [errA, hv, s1]
  have e6 : errA t b = 0 := by simp [errA, hv, s2]
  have c1 := fun W (h : Below w.heap.size w W) => apart_any t A ca a b W (ha.below h) fa (by omega)
  have c2 := fun W (h : Below w.heap.size w W) => apart_any t A ca b a W (ha.below h) fa (by omega)
  have c3 := fun W (h : Below w.heap.size w W) => apart_any t A ca a c W (ha.below h) fa (by omega)
  have c4 := fun W (h : Below w.heap.size w W) => apart_any t A ca c b W (ha.below h) fa (by omega)
  have c5 := fun W (h : Below w.heap.size w W) => at_any t A ca a W (ha.below h) fa (by omega)
  have c6 := fun W (h : Below w.heap.size w W) => at_any t A ca b W (ha.below h) fa (by omega)
  rw [e1] at c1
  rw [e2, F1] at c2
  rw [e3] at c3
  rw [e4] at c4
  rw [e5] at c5
  rw [e6] at c6
  have d1 : diffM L 0 a.st.toNat = pre L a.st.toNat := by unfold diffM; rw [pre_zero]; omega
  have d2 : diffM L 0 b.st.toNat = pre L b.st.toNat := by unfold diffM; rw [pre_zero]; omega
  have v1 := pre_bd f4 a.st.toNat
  have v2 := pre_bd f4 b.st.toNat
  have k1 := fun W A1 m (h : SlAt encI 1 W A1 L) (hm : L.length ≤ m) => sum_x L A1 m 0 a.st W h (by omega) (by omega) (by omega) hm f4 (by omega)
  have k2 := fun W A1 m (h : SlAt encI 1 W A1 L) (hm : L.length ≤ m) => sum_x L A1 m 0 b.st W h (by omega) (by omega) (by omega) hm f4 (by omega)
  rw [show (0 : Int).toNat = 0 from rfl, d1] at k1
  rw [show (0 : Int).toNat = 0 from rfl, d2] at k2
  have m1 := fun W => some_any a.off (chooseI ch 50) W (by omega) (by omega) (by omega) p1
  have m2 := fun W => some_any b.off (chooseI ch 51) W (by omega) (by omega) (by omega) p2
  generalize someI a.off (chooseI ch 50) = x at *
  generalize someI b.off (chooseI ch 51) = y at *
  generalize apT t a b = ab at *
  generalize apT t a c = ac at *
  generalize apT t c b = cb at *
  generalize atT t a = pa at *
  generalize atT t b = pb at *
  generalize pre L a.st.toNat = pL at *
  generalize pre L b.st.toNat = qL at *
  unfold vSpot at hS1 hS2 hS3 c1 c2 c3 c4 c5 c6
  (refine ret_enter (n := 198) Try.func12 rfl rfl rfl ?_)
  (repeat' (first | ((with_reducible refine isOps ?_); first | refine u_move rfl rfl rfl rfl rfl ?_ | refine u_assign rfl rfl rfl rfl rfl ?_ | (refine x_load rfl rfl rfl rfl rfl ?_; refine ⟨_, rfl, ?_⟩) | refine u_pick rfl rfl rfl rfl rfl rfl ?_ | refine u_gives rfl rfl rfl rfl rfl rfl (fun _ _ q => alive_any _) ?_ | refine u_gives rfl rfl rfl rfl rfl rfl (fun _ _ q => hR _ q.below) ?_ | refine u_not rfl rfl rfl rfl rfl ?_ | (refine u_box rfl rfl rfl rfl rfl rfl (fun b => ?_))) | (with_reducible first | refine u_seq ?_ | refine u_region ?_ | refine u_nil ?_ | refine u_then_n ?_ | refine u_skip ?_) | ((with_reducible refine u_cond_f ?_ ?_); (· exact rfl))))
  (refine u_chain (by kernel_rfl) [[], [false], [true, true], [false, false, false], [false, false, false, false], [true, true, true, true, true], [false, false, false, false, false, false], [false, false, false, false, false, false, false], [true, true, true, true, true, true, true, true], [false, false, false, false, false, false, false, false, false], [false, false, false, false, false, false, false, false, false, false], [false, false, false, false, false, false, false, false, false, false, false], [true, true, true, true, true, true, true, true, true, true, true, true], [true, true, true, true, true, true, true, true, true, true, true, true, true], [true, true, true, true, true, true, true, true, true, true, true, true, true, true]] (by kernel_rfl) (by kernel_rfl) ?_)
  (repeat' (first | (((with_reducible refine c_go ?_ ?_); (· exact rfl); refine ⟨_, fun G => (by (try simp only [fltT, entsT, List.nil_append, List.cons_append]); rfl), ?_⟩); first | refine c_val _ (fun _ => e_move rfl rfl) (fun _ => rfl) rfl (by first | exact fun _ _ _ => rfl | (intro G G' h; simp (decide := true) only [h])) ?_ | refine c_val _ (fun _ => e_load' rfl rfl (by exact rfl)) (fun _ => rfl) rfl (by first | exact fun _ _ _ => rfl | (intro G G' h; simp (decide := true) only [h])) ?_ | refine c_gives _ rfl (fun _ => rfl) rfl (fun _ => rfl) (fun _ => rfl) (fun _ _ _ q => hS1 _ q.below) (by first | exact fun _ _ _ => rfl | (intro G G' h; simp (decide := true) only [h])) ?_ | refine c_gives _ rfl (fun _ => rfl) rfl (fun _ => rfl) (fun _ => rfl) (fun _ _ _ q => hS2 _ q.below) (by first | exact fun _ _ _ => rfl | (intro G G' h; simp (decide := true) only [h])) ?_ | refine c_gives _ rfl (fun _ => rfl) rfl (fun _ => rfl) (fun _ => rfl) (fun _ _ _ q => hS3 _ q.below) (by first | exact fun _ _ _ => rfl | (intro G G' h; simp (decide := true) only [h])) ?_ | refine c_alloc rfl (fun _ => rfl) rfl ?_) | ((with_reducible refine c_tail ?_ ?_); (· exact rfl))))
  (intro G; simp only [regsT, entsT, Pend.at_none, List.nil_append, List.cons_append])
  (repeat' (first | ((with_reducible refine isOps ?_); first | refine u_move rfl rfl rfl rfl rfl ?_ | refine u_assign rfl rfl rfl rfl rfl ?_ | (refine x_load rfl rfl rfl rfl rfl ?_; refine ⟨_, rfl, ?_⟩) | refine u_gives rfl rfl rfl rfl rfl rfl (fun _ _ q => c1 _ q.below) ?_ | refine u_gives rfl rfl rfl rfl rfl rfl (fun _ _ q => c2 _ q.below) ?_ | refine u_gives rfl rfl rfl rfl rfl rfl (fun _ _ q => c3 _ q.below) ?_ | refine u_gives rfl rfl rfl rfl rfl rfl (fun _ _ q => c4 _ q.below) ?_ | refine u_gives rfl rfl rfl rfl rfl rfl (fun _ _ q => c5 _ q.below) ?_ | refine u_gives rfl rfl rfl rfl rfl rfl (fun _ _ q => c6 _ q.below) ?_ | refine u_extract rfl rfl rfl rfl rfl rfl ?_ | (refine x_store rfl rfl rfl rfl rfl ?_; refine And.intro rfl (And.intro (by first | decide | exact Nat.le_of_ble_eq_true rfl | (simp; omega)) ⟨_, rfl, ?_⟩)) | (refine u_alloc rfl rfl rfl rfl (fun b => ?_))) | (with_reducible first | refine u_seq ?_ | refine u_region ?_ | refine u_nil ?_ | refine u_then_n ?_)))
  (refine u_chain (by kernel_rfl) [[], [true], [true, true], [true, true, true], [true, true, true, true], [true, true, true, true, true], [true, true, true, true, true, true], [true, true, true, true, true, true, true], [true, true, true, true, true, true, true, true], [true, true, true, true, true, true, true, true, true], [true, true, true, true, true, true, true, true, true, true], [true, true, true, true, true, true, true, true, true, true, true], [true, true, true, true, true, true, true, true, true, true, true, true], [true, true, true, true, true, true, true, true, true, true, true, true, true], [true, true, true, true, true, true, true, true, true, true, true, true, true, true], [true, true, true, true, true, true, true, true, true, true, true, true, true, true, true], [true, true, true, true, true, true, true, true, true, true, true, true, true, true, true, true], [true, true, true, true, true, true, true, true, true, true, true, true, true, true, true, true, true], [true, true, true, true, true, true, true, true, true, true, true, true, true, true, true, true, true, true], [true, true, true, true, true, true, true, true, true, true, true, true, true, true, true, true, true, true, true], [true, true, true, true, true, true, true, true, true, true, true, true, true, true, true, true, true, true, true, true], [true, true, true, true, true, true, true, true, true, true, true, true, true, true, true, true, true, true, true, true, true], [true, true, true, true, true, true, true, true, true, true, true, true, true, true, true, true, true, true, true, true, true, true], [true, true, true, true, true, true, true, true, true, true, true, true, true, true, true, true, true, true, true, true, true, true, true], [false, true, true, true, true, true, true, true, true, true, true, true, true, true, true, true, true, true, true, true, true, true, true, true], [true, false, true, true, true, true, true, true, true, true, true, true, true, true, true, true, true, true, true, true, true, true, true, true, true], [true, true, false, true, true, true, true, true, true, true, true, true, true, true, true, true, true, true, true, true, true, true, true, true, true, true], [false, false, false, false, true, true, true, true, true, true, true, true, true, true, true, true, true, true, true, true, true, true, true, true, true, true, true], [true, false, false, false, false, true, true, true, true, true, true, true, true, true, true, true, true, true, true, true, true, true, true, true, true, true, true, true], [true, true, false, false, false, false, true, true, true, true, true, true, true, true, true, true, true, true, true, true, true, true, true, true, true, true, true, true, true], [true, true, true, true, true, true, false, true, true, true, true, true, true, true, true, true, true, true, true, true, true, true, true, true, true, true, true, true, true, true], [true, true, true, true, true, true, true, true, true, true, true, true, true, true, true, true, true, true, true, true, true, true, true, true, true, true, true, true, true, true, true], [true, true, true, true, true, true, true, true, true, true, true, true, true, true, true, true, true, true, true, true, true, true, true, true, true, true, true, true, true, true, true, true]] (by kernel_rfl) (by kernel_rfl) ?_)
  (repeat' (first | (((with_reducible refine c_go ?_ ?_); (· exact rfl); refine ⟨_, fun G => (by (try simp only [fltT, entsT, List.nil_append, List.cons_append]); rfl), ?_⟩); first | refine c_val _ (fun _ => e_move rfl rfl) (fun _ => rfl) rfl (by first | exact fun _ _ _ => rfl | (intro G G' h; simp (decide := true) only [h])) ?_ | refine c_val _ (fun _ => e_load' rfl rfl (by exact rfl)) (fun _ => rfl) rfl (by first | exact fun _ _ _ => rfl | (intro G G' h; simp (decide := true) only [h])) ?_ | refine c_val _ (fun _ => e_field rfl rfl) (fun _ => rfl) rfl (by first | exact fun _ _ _ => rfl | (intro G G' h; simp (decide := true) only [h])) ?_ | refine c_val _ (fun _ => e_pick rfl rfl rfl) (fun _ => rfl) rfl (by first | exact fun _ _ _ => rfl | (intro G G' h; simp (decide := true) only [h])) ?_ | (refine c_cmp rfl rfl (fun _ => rfl) rfl (fun _ => rfl) (fun _ => rfl) (fun h => ?_) (fun h => ?_) <;> (dsimp only [cmpP] at h; (try (exfalso; omega)))) | refine c_gives _ rfl (fun _ => rfl) rfl (fun _ => rfl) (fun _ => rfl) (fun _ _ _ q => lspan_any _ _ _) (by first | exact fun _ _ _ => rfl | (intro G G' h; simp (decide := true) only [h])) ?_ | (refine c_nesp rfl (fun _ => rfl) rfl (fun _ => rfl) (fun _ => rfl) (fun h => ?_) (fun h => ?_) <;> (try (exfalso; omega))) | refine c_val _ (fun _ => e_neg rfl rfl (by rw [Int.zero_sub]; exact IntWalk.i64_in _ (by omega))) (fun _ => rfl) rfl (by first | exact fun _ _ _ => rfl | (intro G G' h; simp (decide := true) only [h])) ?_) | (with_reducible refine c_nil ?_)))
  all_goals
    (intro G; simp only [regsT, entsT, Pend.at_none, List.nil_append, List.cons_append])
    (repeat' (first | ((with_reducible refine isOps ?_); first | refine u_move rfl rfl rfl rfl rfl ?_ | refine u_assign rfl rfl rfl rfl rfl ?_ | (refine x_load rfl rfl rfl rfl rfl ?_; refine ⟨_, rfl, ?_⟩) | refine u_field rfl rfl rfl rfl rfl ?_ | refine u_pick rfl rfl rfl rfl rfl rfl ?_ | (refine u_cmp rfl rfl rfl rfl rfl rfl rfl (fun h => ?_) (fun h => ?_) <;> (dsimp only [cmpP] at h; (try (exfalso; omega)))) | (refine u_call rfl rfl rfl rfl rfl rfl (fun _ _ q => hT _ q.below) ?_; rintro ⟨⟨A1, q1⟩, A2, q2⟩ ⟨z1, z2⟩; dsimp only [List.cons_append, List.nil_append]) | refine u_extract rfl rfl rfl rfl rfl rfl ?_ | refine u_add rfl rfl rfl rfl rfl rfl (IntWalk.i64_in _ (by omega)) ?_) | (with_reducible first | refine u_seq ?_ | refine u_region ?_ | refine u_nil ?_ | refine u_then_n ?_ | refine u_skip ?_) | ((with_reducible refine u_cond_f ?_ ?_); (· exact rfl))))
    (refine u_chain (by kernel_rfl) [[], [false], [true, false], [true, true, true], [false, false, false, false], [true, false, false, false, false], [false, false, false, false, false, false], [true, false, false, true, true, true, true], [true, true, true, true, true, true, true, true], [true, true, true, true, true, true, true, true, true], [true, true, true, true, true, true, true, true, true, true]] (by kernel_rfl) (by kernel_rfl) ?_)
    (repeat' (first | (((with_reducible refine c_go ?_ ?_); (· exact rfl); refine ⟨_, fun G => (by (try simp only [fltT, entsT, List.nil_append, List.cons_append]); rfl), ?_⟩); first | refine c_val _ (fun _ => e_move rfl rfl) (fun _ => rfl) rfl (by first | exact fun _ _ _ => rfl | (intro G G' h; simp (decide := true) only [h])) ?_ | refine c_val _ (fun _ => e_load' rfl rfl (by exact rfl)) (fun _ => rfl) rfl (by first | exact fun _ _ _ => rfl | (intro G G' h; simp (decide := true) only [h])) ?_ | refine c_val _ (fun _ => e_field rfl rfl) (fun _ => rfl) rfl (by first | exact fun _ _ _ => rfl | (intro G G' h; simp (decide := true) only [h])) ?_ | refine c_val _ (fun _ => e_assign rfl rfl) (fun _ => rfl) rfl (by first | exact fun _ _ _ => rfl | (intro G G' h; simp (decide := true) only [h])) ?_ | refine c_gives _ rfl (fun _ => rfl) rfl (fun _ => rfl) (fun _ => rfl) (fun _ _ _ q => k1 _ _ _ (sl_at q.own (Below.refl _ _)) z1) (by first | exact fun _ _ _ => rfl | (intro G G' h; simp (decide := true) only [h])) ?_ | refine c_gives _ rfl (fun _ => rfl) rfl (fun _ => rfl) (fun _ => rfl) (fun _ _ _ q => choose_any ch C cc _ 50 _ (hC.below q.below) hf (by omega)) (by first | exact fun _ _ _ => rfl | (intro G G' h; simp (decide := true) only [h])) ?_ | refine c_gives _ rfl (fun _ => rfl) rfl (fun _ => rfl) (fun _ => rfl) (fun _ _ _ q => m1 _) (by first | exact fun _ _ _ => rfl | (intro G G' h; simp (decide := true) only [h])) ?_ | refine c_val _ (fun _ => e_add rfl rfl rfl (IntWalk.i64_in _ (by omega))) (fun _ => rfl) rfl (by first | exact fun _ _ _ => rfl | (intro G G' h; simp (decide := true) only [h])) ?_) | (with_reducible refine c_nil ?_)))
    (intro G; simp only [regsT, entsT, Pend.at_none, List.nil_append, List.cons_append])
    (repeat' (first | (with_reducible first | refine u_seq ?_ | refine u_then_n ?_)))
    (refine u_chain (by kernel_rfl) [[], [false], [true, false], [true, true, true], [false, false, false, false], [true, false, false, false, false], [false, false, false, false, false, false], [true, false, false, true, true, true, true], [true, true, true, true, true, true, true, true], [true, true, true, true, true, true, true, true, true], [true, true, true, true, true, true, true, true, true, true]] (by kernel_rfl) (by kernel_rfl) ?_)
    (repeat' (first | (((with_reducible refine c_go ?_ ?_); (· exact rfl); refine ⟨_, fun G => (by (try simp only [fltT, entsT, List.nil_append, List.cons_append]); rfl), ?_⟩); first | refine c_val _ (fun _ => e_move rfl rfl) (fun _ => rfl) rfl (by first | exact fun _ _ _ => rfl | (intro G G' h; simp (decide := true) only [h])) ?_ | refine c_val _ (fun _ => e_load' rfl rfl (by exact rfl)) (fun _ => rfl) rfl (by first | exact fun _ _ _ => rfl | (intro G G' h; simp (decide := true) only [h])) ?_ | refine c_val _ (fun _ => e_field rfl rfl) (fun _ => rfl) rfl (by first | exact fun _ _ _ => rfl | (intro G G' h; simp (decide := true) only [h])) ?_ | refine c_val _ (fun _ => e_assign rfl rfl) (fun _ => rfl) rfl (by first | exact fun _ _ _ => rfl | (intro G G' h; simp (decide := true) only [h])) ?_ | refine c_gives _ rfl (fun _ => rfl) rfl (fun _ => rfl) (fun _ => rfl) (fun _ _ _ q => k2 _ _ _ (sl_at q.own (Below.refl _ _)) z1) (by first | exact fun _ _ _ => rfl | (intro G G' h; simp (decide := true) only [h])) ?_ | refine c_gives _ rfl (fun _ => rfl) rfl (fun _ => rfl) (fun _ => rfl) (fun _ _ _ q => choose_any ch C cc _ 51 _ (hC.below q.below) hf (by omega)) (by first | exact fun _ _ _ => rfl | (intro G G' h; simp (decide := true) only [h])) ?_ | refine c_gives _ rfl (fun _ => rfl) rfl (fun _ => rfl) (fun _ => rfl) (fun _ _ _ q => m2 _) (by first | exact fun _ _ _ => rfl | (intro G G' h; simp (decide := true) only [h])) ?_ | refine c_val _ (fun _ => e_add rfl rfl rfl (IntWalk.i64_in _ (by omega))) (fun _ => rfl) rfl (by first | exact fun _ _ _ => rfl | (intro G G' h; simp (decide := true) only [h])) ?_) | (with_reducible refine c_nil ?_)))
    (intro G; simp only [regsT, entsT, Pend.at_none, List.nil_append, List.cons_append])
    (repeat' (first | ((with_reducible refine isOps ?_); first | refine u_move rfl rfl rfl rfl rfl ?_ | refine u_assign rfl rfl rfl rfl rfl ?_ | (refine x_load rfl rfl rfl rfl rfl ?_; refine ⟨_, rfl, ?_⟩) | refine u_field rfl rfl rfl rfl rfl ?_ | refine u_pick rfl rfl rfl rfl rfl rfl ?_ | (refine u_cmp rfl rfl rfl rfl rfl rfl rfl (fun h => ?_) (fun h => ?_) <;> (dsimp only [cmpP] at h; (try (exfalso; omega)))) | (refine u_givesB rfl rfl rfl rfl rfl rfl (fun _ _ q => inside_any _ _ _) (fun h => ?_) (fun h => ?_) <;> ((try simp only [inB_iff, inB_no, knownB_iff, knownB_no] at h); (try (exfalso; omega)))) | refine u_sub rfl rfl rfl rfl rfl rfl (IntWalk.i64_in _ (by omega)) ?_) | (with_reducible first | refine u_seq ?_ | refine u_region ?_ | refine u_nil ?_ | refine u_then_n ?_ | refine u_ret ?_)))
    all_goals exact u_done (by (exact ResL.cons (by exact Res1.tmp rfl) ResL.nil)) () trivial rfl (fun _ h => h.sub (by (repeat (first | exact Out.nil _ | (refine Out.cons (by (repeat (first | exact Take.here _ _ | apply Take.there))) ?_)))))
end Go.Proofs.Ytekjkaoibcfgfaa
