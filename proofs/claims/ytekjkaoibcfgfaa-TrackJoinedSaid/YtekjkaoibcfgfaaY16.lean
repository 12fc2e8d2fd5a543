/- The law TrackJoined returns true. -/
import Derived.Test.YtekjkaoibcfgfaaY9
import Derived.Test.YtekjkaoibcfgfaaY7
import Derived.Test.YtekjkaoibcfgfaaZ7
import Derived.Test.YtekjkaoibcfgfaaDropT
namespace Go.Proofs.Ytekjkaoibcfgfaa
open Go.RowKit
set_option maxRecDepth 20000
set_option linter.unusedSimpArgs false
set_option linter.unusedVariables false

theorem foldSp (l : List Sp) : ∀ s : Sp, l.foldl addSp s = addSp s (sumSp l) := by
  induction l with
  | nil => intro s; simp [sumSp, addSp]
  | cons x r ih =>
    intro s
    have h1 := ih (addSp s x)
    have h2 := ih (addSp ⟨0, 0⟩ x)
    simp only [List.foldl_cons, sumSp] at h1 h2 ⊢
    rw [h1, h2]
    simp only [addSp, Sp.mk.injEq]
    omega
theorem sumSp_append (a b : List Sp) : sumSp (a ++ b) = addSp (sumSp a) (sumSp b) := by
  have := foldSp b (sumSp a)
  unfold sumSp at *
  rw [List.foldl_append, this]
theorem whole {α : Type} {l : List α} : l.extract 0 l.length = l := by simp
theorem long_joined {a b : List St} : longBetween (a ++ b) 0 (a.length + b.length) = addSp (longBetween a 0 a.length) (longBetween b 0 b.length) := by
  have e0 : (longs (a ++ b)).length = a.length + b.length := by simp [longs]
  have e1 : (longs a).length = a.length := by simp [longs]
  have e2 : (longs b).length = b.length := by simp [longs]
  unfold longBetween
  have w0 := whole (l := longs (a ++ b))
  have w1 := whole (l := longs a)
  have w2 := whole (l := longs b)
  rw [e0] at w0
  rw [e1] at w1
  rw [e2] at w2
  rw [w0, w1, w2, longs_append, sumSp_append]
theorem fall_joined {a b : List St} : fallBetween (a ++ b) 0 (a.length + b.length) = addSp (fallBetween a 0 a.length) (fallBetween b 0 b.length) := by
  have e0 : (falls (a ++ b)).length = a.length + b.length := by simp [falls]
  have e1 : (falls a).length = a.length := by simp [falls]
  have e2 : (falls b).length = b.length := by simp [falls]
  unfold fallBetween
  have w0 := whole (l := falls (a ++ b))
  have w1 := whole (l := falls a)
  have w2 := whole (l := falls b)
  rw [e0] at w0
  rw [e1] at w1
  rw [e2] at w2
  rw [w0, w1, w2, falls_append, sumSp_append]
theorem drop_whole {t : List St} (hv : valid t = true) : dropL t 0 t.length = longBetween t 0 t.length ∧ dropF t 0 t.length = fallBetween t 0 t.length ∧ errD t 0 t.length = 0 := by
  have hd : dropOk t 0 t.length = true := by
    unfold dropOk
    rw [Bool.and_eq_true, inB_iff, inB_iff]; omega
  unfold dropL dropF errD
  rw [hv, hd]
  simp
theorem fit_append {a b : List St} (fa : FitT a) (fb : FitT b) : FitT (a ++ b) := fun s hs => by
  rcases List.mem_append.1 hs with h | h
  · exact fa s h
  · exact fb s h

set_option maxHeartbeats 4000000 in
theorem trackJoined_any (a bl : List St) (A B : Option Addr) (ca cb : Nat) (l : List Me) (C : Option Addr) (cc : Nat) (w : World) (ha : SlAt encSt 9 w A a) (hb : SlAt encSt 9 w B bl) (hs : SlAt encMe 5 w C l) (hC : ∀ zz o, C = some ⟨zz, o, none⟩ → zz < w.heap.size) (fa : FitT a) (fb : FitT bl) (fm : FitMs l) :
    Gv Try.prog 15 [.agg #[.slice A a.length ca], .agg #[.slice B bl.length cb], .slice C l.length cc] w (.bool true) := by
  unfold Gv
  have hR := fun W (h : Below w.heap.size w W) => ready_any a A ca W (ha.below h) fa
  have hR2 := fun W (h : Below w.heap.size w W) => ready_any bl B cb W (hb.below h) fb
  cases hr : readyB a
  · rw [hr] at hR
    (refine ret_enter (n := 202) Try.func15 rfl rfl rfl ?_)
    (repeat' (first | ((with_reducible refine isOps ?_); first | refine u_move rfl rfl rfl rfl rfl ?_ | refine u_assign rfl rfl rfl rfl rfl ?_ | (refine x_load rfl rfl rfl rfl rfl ?_; refine ⟨_, rfl, ?_⟩) | refine u_pick rfl rfl rfl rfl rfl rfl ?_ | refine u_not_wanted rfl rfl rfl ?_ | refine u_gives rfl rfl rfl rfl rfl rfl (fun _ _ q => alive_any _) ?_ | refine u_gives rfl rfl rfl rfl rfl rfl (fun _ _ q => hR _ q.below) ?_ | refine u_not rfl rfl rfl rfl rfl ?_ | (refine u_box rfl rfl rfl rfl rfl rfl (fun b => ?_))) | (with_reducible first | refine u_seq ?_ | refine u_region ?_ | refine u_nil ?_ | refine u_then_n ?_ | refine u_ret ?_ | refine u_then_r ?_) | ((with_reducible refine u_cond_t ?_ ?_); (· exact rfl))))
    all_goals exact u_done (by (exact ResL.cons (by exact Res1.tmp rfl) ResL.nil)) () trivial rfl (fun _ h => h.sub (by (repeat (first | exact Out.nil _ | (refine Out.cons (by (repeat (first | exact Take.here _ _ | apply Take.there))) ?_)))))
  rw [hr] at hR
  cases hr2 : readyB bl
  · rw [hr2] at hR2
    (refine ret_enter (n := 202) Try.func15 rfl rfl rfl ?_)
    (repeat' (first | ((with_reducible refine isOps ?_); first | refine u_move rfl rfl rfl rfl rfl ?_ | refine u_assign rfl rfl rfl rfl rfl ?_ | (refine x_load rfl rfl rfl rfl rfl ?_; refine ⟨_, rfl, ?_⟩) | refine u_pick rfl rfl rfl rfl rfl rfl ?_ | refine u_not_wanted rfl rfl rfl ?_ | refine u_gives rfl rfl rfl rfl rfl rfl (fun _ _ q => alive_any _) ?_ | refine u_gives rfl rfl rfl rfl rfl rfl (fun _ _ q => hR _ q.below) ?_ | refine u_gives rfl rfl rfl rfl rfl rfl (fun _ _ q => hR2 _ q.below) ?_ | refine u_not rfl rfl rfl rfl rfl ?_ | (refine u_box rfl rfl rfl rfl rfl rfl (fun b => ?_))) | (with_reducible first | refine u_seq ?_ | refine u_region ?_ | refine u_nil ?_ | refine u_then_n ?_ | refine u_ret ?_ | refine u_then_r ?_) | ((with_reducible refine u_cond_t ?_ ?_); (· exact rfl))))
    all_goals exact u_done (by (exact ResL.cons (by exact Res1.tmp rfl) ResL.nil)) () trivial rfl (fun _ h => h.sub (by (repeat (first | exact Out.nil _ | (refine Out.cons (by (repeat (first | exact Take.here _ _ | apply Take.there))) ?_)))))
  rw [hr2] at hR2
  have va := readyB_ok hr
  have vb := readyB_ok hr2
  have la := valid_len va
  have lb := valid_len vb
  have hJ := fun W (h : Below w.heap.size w W) => join_any a bl A B ca cb W (ha.below h) (hb.below h) fa fb ⟨by omega, by omega⟩
  obtain ⟨ba, oa, rfl, _⟩ := ha.at_ (show 0 < a.length by omega)
  have : InS w ba oa encSt 9 a := ⟨ha⟩
  obtain ⟨bb, ob, rfl, _⟩ := hb.at_ (show 0 < bl.length by omega)
  have : InS w bb ob encSt 9 bl := ⟨hb⟩
  by_cases hg : 12 < a.length + bl.length
  · have e1 : errJ a bl = 9 := by simp [errJ, va, vb, hg]
    have e2 : joinT a bl = [] := by simp [joinT, va, vb, hg]
    rw [e1, e2] at hJ
    (refine ret_enter (n := 202) Try.func15 rfl rfl rfl ?_)
    (repeat' (first | ((with_reducible refine isOps ?_); first | refine u_move rfl rfl rfl rfl rfl ?_ | refine u_assign rfl rfl rfl rfl rfl ?_ | (refine x_load rfl rfl rfl rfl rfl ?_; refine ⟨_, rfl, ?_⟩) | refine u_pick rfl rfl rfl rfl rfl rfl ?_ | refine u_gives rfl rfl rfl rfl rfl rfl (fun _ _ q => alive_any _) ?_ | refine u_gives rfl rfl rfl rfl rfl rfl (fun _ _ q => hR _ q.below) ?_ | refine u_gives rfl rfl rfl rfl rfl rfl (fun _ _ q => hR2 _ q.below) ?_ | refine u_not rfl rfl rfl rfl rfl ?_ | (refine u_box rfl rfl rfl rfl rfl rfl (fun b => ?_))) | (with_reducible first | refine u_seq ?_ | refine u_region ?_ | refine u_nil ?_ | refine u_then_n ?_ | refine u_skip ?_) | ((with_reducible refine u_cond_f ?_ ?_); (· exact rfl))))
    (refine u_chain (by kernel_rfl) [[], [true], [true, true], [false, false, false], [true, false, false, false], [true, true, false, false, false], [false, false, false, true, true, true], [true, true, true, true, true, true, true]] (by kernel_rfl) (by kernel_rfl) ?_)
    (repeat' (first | (((with_reducible refine c_go ?_ ?_); (· exact rfl); refine ⟨_, fun G => (by (try simp only [fltT, entsT, List.nil_append, List.cons_append]); rfl), ?_⟩); first | refine c_val _ (fun _ => e_load' rfl rfl (by exact rfl)) (fun _ => rfl) rfl (by first | exact fun _ _ _ => rfl | (intro G G' h; simp (decide := true) only [h])) ?_ | refine c_val _ (fun _ => e_field rfl rfl) (fun _ => rfl) rfl (by first | exact fun _ _ _ => rfl | (intro G G' h; simp (decide := true) only [h])) ?_ | refine c_val _ (fun _ => e_assign rfl rfl) (fun _ => rfl) rfl (by first | exact fun _ _ _ => rfl | (intro G G' h; simp (decide := true) only [h])) ?_ | refine c_val _ (fun _ => e_len rfl rfl) (fun _ => rfl) rfl (by first | exact fun _ _ _ => rfl | (intro G G' h; simp (decide := true) only [h])) ?_) | (with_reducible refine c_nil ?_)))
    (intro G; simp only [regsT, entsT, Pend.at_none, List.nil_append, List.cons_append])
    (repeat' (first | ((with_reducible refine isOps ?_); first | refine u_move rfl rfl rfl rfl rfl ?_ | refine u_assign rfl rfl rfl rfl rfl ?_ | (refine x_load rfl rfl rfl rfl rfl ?_; refine ⟨_, rfl, ?_⟩) | refine u_pick rfl rfl rfl rfl rfl rfl ?_ | (refine u_cmp rfl rfl rfl rfl rfl rfl rfl (fun h => ?_) (fun h => ?_) <;> (dsimp only [cmpP] at h; (try (exfalso; omega)))) | refine u_newsl rfl rfl rfl rfl rfl rfl (fun _ _ q => hJ _ q.below) (fun A' c' => ?_) | refine u_extract rfl rfl rfl rfl rfl rfl ?_ | refine u_add rfl rfl rfl rfl rfl rfl (IntWalk.i64_in _ (by omega)) ?_ | (refine x_store rfl rfl rfl rfl rfl ?_; refine And.intro rfl (And.intro (by first | decide | exact Nat.le_of_ble_eq_true rfl | (simp; omega)) ⟨_, rfl, ?_⟩)) | (refine u_alloc rfl rfl rfl rfl (fun b => ?_))) | (with_reducible first | refine u_seq ?_ | refine u_region ?_ | refine u_nil ?_ | refine u_then_n ?_ | refine u_ret ?_ | refine u_then_r ?_) | ((with_reducible refine u_cond_t ?_ ?_); (· exact rfl))))
    all_goals exact u_done (by (exact ResL.cons (by exact Res1.tmp rfl) ResL.nil)) () trivial rfl (fun _ h => h.sub (by (repeat (first | exact Out.nil _ | (refine Out.cons (by (repeat (first | exact Take.here _ _ | apply Take.there))) ?_)))))
  obtain ⟨n, hn⟩ : ∃ n, a.length = n + 1 := ⟨a.length - 1, by omega⟩
  have hvj := valid_join va vb (by omega) hn (by omega)
  have hzn : a[n]? = some a[n] := List.getElem?_eq_getElem (by omega)
  have hz0 : bl[0]? = some bl[0] := List.getElem?_eq_getElem (by omega)
  by_cases hid : (a[n]'(by omega)).id < (bl[0]'(by omega)).id
  rotate_left
  · rw [decide_eq_false hid] at hvj
    have e1 : errJ a bl = 8 := by simp [errJ, va, vb, hg, hvj]
    have e2 : joinT a bl = [] := by simp [joinT, va, vb, hg, hvj]
    rw [e1, e2] at hJ
    generalize a[n] = z at *
    generalize bl[0] = u at *
    have : GetI a n z := ⟨hzn⟩
    have : GetI bl 0 u := ⟨hz0⟩
    (refine ret_enter (n := 202) Try.func15 rfl rfl rfl ?_)
    (repeat' (first | ((with_reducible refine isOps ?_); first | refine u_move rfl rfl rfl rfl rfl ?_ | refine u_assign rfl rfl rfl rfl rfl ?_ | (refine x_load rfl rfl rfl rfl rfl ?_; refine ⟨_, rfl, ?_⟩) | refine u_pick rfl rfl rfl rfl rfl rfl ?_ | refine u_gives rfl rfl rfl rfl rfl rfl (fun _ _ q => alive_any _) ?_ | refine u_gives rfl rfl rfl rfl rfl rfl (fun _ _ q => hR _ q.below) ?_ | refine u_gives rfl rfl rfl rfl rfl rfl (fun _ _ q => hR2 _ q.below) ?_ | refine u_not rfl rfl rfl rfl rfl ?_ | (refine u_box rfl rfl rfl rfl rfl rfl (fun b => ?_))) | (with_reducible first | refine u_seq ?_ | refine u_region ?_ | refine u_nil ?_ | refine u_then_n ?_ | refine u_skip ?_) | ((with_reducible refine u_cond_f ?_ ?_); (· exact rfl))))
    (refine u_chain (by kernel_rfl) [[], [true], [true, true], [false, false, false], [true, false, false, false], [true, true, false, false, false], [false, false, false, true, true, true], [true, true, true, true, true, true, true]] (by kernel_rfl) (by kernel_rfl) ?_)
    (repeat' (first | (((with_reducible refine c_go ?_ ?_); (· exact rfl); refine ⟨_, fun G => (by (try simp only [fltT, entsT, List.nil_append, List.cons_append]); rfl), ?_⟩); first | refine c_val _ (fun _ => e_load' rfl rfl (by exact rfl)) (fun _ => rfl) rfl (by first | exact fun _ _ _ => rfl | (intro G G' h; simp (decide := true) only [h])) ?_ | refine c_val _ (fun _ => e_field rfl rfl) (fun _ => rfl) rfl (by first | exact fun _ _ _ => rfl | (intro G G' h; simp (decide := true) only [h])) ?_ | refine c_val _ (fun _ => e_assign rfl rfl) (fun _ => rfl) rfl (by first | exact fun _ _ _ => rfl | (intro G G' h; simp (decide := true) only [h])) ?_ | refine c_val _ (fun _ => e_len rfl rfl) (fun _ => rfl) rfl (by first | exact fun _ _ _ => rfl | (intro G G' h; simp (decide := true) only [h])) ?_) | (with_reducible refine c_nil ?_)))
    (intro G; simp only [regsT, entsT, Pend.at_none, List.nil_append, List.cons_append])
    (repeat' (first | ((with_reducible refine isOps ?_); first | refine u_move rfl rfl rfl rfl rfl ?_ | refine u_assign rfl rfl rfl rfl rfl ?_ | (refine x_load rfl rfl rfl rfl rfl ?_; refine ⟨_, rfl, ?_⟩) | (refine u_cmp rfl rfl rfl rfl rfl rfl rfl (fun h => ?_) (fun h => ?_) <;> (dsimp only [cmpP] at h; (try (exfalso; omega)))) | refine u_newsl rfl rfl rfl rfl rfl rfl (fun _ _ q => hJ _ q.below) (fun A' c' => ?_) | refine u_extract rfl rfl rfl rfl rfl rfl ?_ | refine u_add rfl rfl rfl rfl rfl rfl (IntWalk.i64_in _ (by omega)) ?_ | (refine x_store rfl rfl rfl rfl rfl ?_; refine And.intro rfl (And.intro (by first | decide | exact Nat.le_of_ble_eq_true rfl | (simp; omega)) ⟨_, rfl, ?_⟩)) | (refine u_alloc rfl rfl rfl rfl (fun b => ?_))) | (with_reducible first | refine u_seq ?_ | refine u_region ?_ | refine u_nil ?_ | refine u_then_n ?_ | refine u_skip ?_) | ((with_reducible refine u_cond_f ?_ ?_); (· exact rfl))))
    (refine u_chain (by kernel_rfl) [[], [true], [false, false], [true, false, false], [true, true, true, true], [true, true, true, true, true], [true, true, true, true, true, true], [false, false, false, false, false, false, false], [true, false, false, false, false, false, false, false], [true, true, false, false, false, false, false, false, false], [true, true, true, false, false, false, false, false, false, false], [true, true, true, true, false, false, false, false, false, false, false], [true, true, true, true, true, true, true, true, true, true, true, true]] (by kernel_rfl) (by kernel_rfl) ?_)
    (repeat' (first | (((with_reducible refine c_go ?_ ?_); (· exact rfl); refine ⟨_, fun G => (by (try simp only [fltT, entsT, List.nil_append, List.cons_append]); rfl), ?_⟩); first | refine c_val _ (fun _ => e_move rfl rfl) (fun _ => rfl) rfl (by first | exact fun _ _ _ => rfl | (intro G G' h; simp (decide := true) only [h])) ?_ | refine c_val _ (fun _ => e_load' rfl rfl (by exact rfl)) (fun _ => rfl) rfl (by first | exact fun _ _ _ => rfl | (intro G G' h; simp (decide := true) only [h])) ?_ | refine c_val _ (fun _ => e_field rfl rfl) (fun _ => rfl) rfl (by first | exact fun _ _ _ => rfl | (intro G G' h; simp (decide := true) only [h])) ?_ | (refine c_cmp rfl rfl (fun _ => rfl) rfl (fun _ => rfl) (fun _ => rfl) (fun h => ?_) (fun h => ?_) <;> (dsimp only [cmpP] at h; (try (exfalso; omega)))) | refine c_val _ (fun _ => e_index (I := n) rfl rfl rfl (by omega) (by omega)) (fun _ => rfl) rfl (by exact fun _ _ _ => rfl) ?_ | refine c_val _ (fun _ => e_index (I := 0) rfl rfl rfl rfl (by omega)) (fun _ => rfl) rfl (by exact fun _ _ _ => rfl) ?_ | refine c_val _ (fun _ => e_sub rfl rfl rfl (IntWalk.i64_in _ (by omega))) (fun _ => rfl) rfl (by first | exact fun _ _ _ => rfl | (intro G G' h; simp (decide := true) only [h])) ?_) | (with_reducible refine c_nil ?_)))
    all_goals
      (intro G; simp only [regsT, entsT, Pend.at_none, List.nil_append, List.cons_append])
      (repeat' (first | ((with_reducible refine isOps ?_); first | refine u_move rfl rfl rfl rfl rfl ?_ | refine u_assign rfl rfl rfl rfl rfl ?_ | refine u_pick rfl rfl rfl rfl rfl rfl ?_ | (refine u_cmp rfl rfl rfl rfl rfl rfl rfl (fun h => ?_) (fun h => ?_) <;> (dsimp only [cmpP] at h; (try (exfalso; omega))))) | (with_reducible first | refine u_seq ?_ | refine u_region ?_ | refine u_nil ?_ | refine u_then_n ?_ | refine u_ret ?_ | refine u_then_r ?_) | ((with_reducible refine u_cond_t ?_ ?_); (· exact rfl))))
      all_goals exact u_done (by (exact ResL.cons (by exact Res1.tmp rfl) ResL.nil)) () trivial rfl (fun _ h => h.sub (by (repeat (first | exact Out.nil _ | (refine Out.cons (by (repeat (first | exact Take.here _ _ | apply Take.there))) ?_)))))
  rw [decide_eq_true hid] at hvj
  generalize a[n] = z at *
  generalize bl[0] = u at *
  have : GetI a n z := ⟨hzn⟩
  have : GetI bl 0 u := ⟨hz0⟩
  have e1 : errJ a bl = 0 := by simp [errJ, va, vb, hg, hvj]
  have e2 : joinT a bl = a ++ bl := by simp [joinT, va, vb, hg, hvj]
  rw [e1, e2] at hJ
  have fab := fit_append fa fb
  have lab : (a ++ bl).length = a.length + bl.length := List.length_append
  obtain ⟨p1, p2, p3⟩ := drop_whole va
  obtain ⟨q1, q2, q3⟩ := drop_whole vb
  obtain ⟨r1, r2, r3⟩ := drop_whole hvj
  rw [lab] at r1 r2 r3
  have j1 := long_joined (a := a) (b := bl)
  have j2 := fall_joined (a := a) (b := bl)
  have bd1 := between_bd (valid_okay va) (Nat.zero_le a.length) (Nat.le_refl _)
  have bd2 := between_bd (valid_okay vb) (Nat.zero_le bl.length) (Nat.le_refl _)
  have hD1 := fun W (h : Below w.heap.size w W) => (drop_any a _ ca 0 a.length W (ha.below h) fa (by omega)).gv
  have hD2 := fun W (h : Below w.heap.size w W) => (drop_any bl _ cb 0 bl.length W (hb.below h) fb (by omega)).gv
  have hD3 := fun W A c (h : SlAt encSt 9 W A (a ++ bl)) => (drop_any (a ++ bl) A c 0 ((a.length : Int) + bl.length) W h fab (by omega)).gv
  have hCk := fun W A c (h : SlAt encSt 9 W A (a ++ bl)) => check_n (a ++ bl) A c W h fab (by omega)
  rw [errT_yes hvj] at hCk
  rw [p1, p2, p3] at hD1
  rw [q1, q2, q3] at hD2
  rw [show ((a.length : Int) + bl.length) = ((a.length + bl.length : Nat) : Int) by omega, r1, r2, r3, j1, j2] at hD3
  unfold vT at hD1 hD2 hD3
  unfold addSp at hD3
  generalize longBetween a 0 a.length = x at *
  generalize fallBetween a 0 a.length = y at *
  generalize longBetween bl 0 bl.length = x2 at *
  generalize fallBetween bl 0 bl.length = y2 at *
  have hM := fun W (h : Below w.heap.size w W) => rMeasures_any a (some ⟨ba, oa, none⟩) ca l C cc W (hs.below h) fm (by omega)
  have hN1 := fun W (h : Below w.heap.size w W) => narrow_any a _ ca l C cc W (ha.below h) (hs.below h) (fun zz o e => Nat.lt_of_lt_of_le (hC zz o e) h.size) fa fm (by omega)
  have hN2 := fun W A c (h : Below w.heap.size w W) (hA : SlAt encSt 9 W A (a ++ bl)) => narrow_any (a ++ bl) A c l C cc W hA (hs.below h) (fun zz o e => Nat.lt_of_lt_of_le (hC zz o e) h.size) fab fm (by omega)
  (refine ret_enter (n := 202) Try.func15 rfl rfl rfl ?_)
  (repeat' (first | ((with_reducible refine isOps ?_); first | refine u_move rfl rfl rfl rfl rfl ?_ | refine u_assign rfl rfl rfl rfl rfl ?_ | (refine x_load rfl rfl rfl rfl rfl ?_; refine ⟨_, rfl, ?_⟩) | refine u_pick rfl rfl rfl rfl rfl rfl ?_ | refine u_gives rfl rfl rfl rfl rfl rfl (fun _ _ q => alive_any _) ?_ | refine u_gives rfl rfl rfl rfl rfl rfl (fun _ _ q => hR _ q.below) ?_ | refine u_gives rfl rfl rfl rfl rfl rfl (fun _ _ q => hR2 _ q.below) ?_ | refine u_not rfl rfl rfl rfl rfl ?_ | (refine u_box rfl rfl rfl rfl rfl rfl (fun b => ?_))) | (with_reducible first | refine u_seq ?_ | refine u_region ?_ | refine u_nil ?_ | refine u_then_n ?_ | refine u_skip ?_) | ((with_reducible refine u_cond_f ?_ ?_); (· exact rfl))))
  (refine u_chain (by kernel_rfl) [[], [true], [true, true], [false, false, false], [true, false, false, false], [true, true, false, false, false], [false, false, false, true, true, true], [true, true, true, true, true, true, true]] (by kernel_rfl) (by kernel_rfl) ?_)
  (repeat' (first | (((with_reducible refine c_go ?_ ?_); (· exact rfl); refine ⟨_, fun G => (by (try simp only [fltT, entsT, List.nil_append, List.cons_append]); rfl), ?_⟩); first | refine c_val _ (fun _ => e_load' rfl rfl (by exact rfl)) (fun _ => rfl) rfl (by first | exact fun _ _ _ => rfl | (intro G G' h; simp (decide := true) only [h])) ?_ | refine c_val _ (fun _ => e_field rfl rfl) (fun _ => rfl) rfl (by first | exact fun _ _ _ => rfl | (intro G G' h; simp (decide := true) only [h])) ?_ | refine c_val _ (fun _ => e_assign rfl rfl) (fun _ => rfl) rfl (by first | exact fun _ _ _ => rfl | (intro G G' h; simp (decide := true) only [h])) ?_ | refine c_val _ (fun _ => e_len rfl rfl) (fun _ => rfl) rfl (by first | exact fun _ _ _ => rfl | (intro G G' h; simp (decide := true) only [h])) ?_) | (with_reducible refine c_nil ?_)))
  (intro G; simp only [regsT, entsT, Pend.at_none, List.nil_append, List.cons_append])
  (repeat' (first | ((with_reducible refine isOps ?_); first | refine u_move rfl rfl rfl rfl rfl ?_ | refine u_assign rfl rfl rfl rfl rfl ?_ | (refine x_load rfl rfl rfl rfl rfl ?_; refine ⟨_, rfl, ?_⟩) | (refine u_cmp rfl rfl rfl rfl rfl rfl rfl (fun h => ?_) (fun h => ?_) <;> (dsimp only [cmpP] at h; (try (exfalso; omega)))) | refine u_newsl rfl rfl rfl rfl rfl rfl (fun _ _ q => hJ _ q.below) (fun A' c' => ?_) | refine u_extract rfl rfl rfl rfl rfl rfl ?_ | refine u_add rfl rfl rfl rfl rfl rfl (IntWalk.i64_in _ (by omega)) ?_ | (refine x_store rfl rfl rfl rfl rfl ?_; refine And.intro rfl (And.intro (by first | decide | exact Nat.le_of_ble_eq_true rfl | (simp; omega)) ⟨_, rfl, ?_⟩)) | (refine u_alloc rfl rfl rfl rfl (fun b => ?_))) | (with_reducible first | refine u_seq ?_ | refine u_region ?_ | refine u_nil ?_ | refine u_then_n ?_ | refine u_skip ?_) | ((with_reducible refine u_cond_f ?_ ?_); (· exact rfl))))
  (refine u_chain (by kernel_rfl) [[], [true], [false, false], [true, false, false], [true, true, true, true], [true, true, true, true, true], [true, true, true, true, true, true], [false, false, false, false, false, false, false], [true, false, false, false, false, false, false, false], [true, true, false, false, false, false, false, false, false], [true, true, true, false, false, false, false, false, false, false], [true, true, true, true, false, false, false, false, false, false, false], [true, true, true, true, true, true, true, true, true, true, true, true]] (by kernel_rfl) (by kernel_rfl) ?_)
  (repeat' (first | (((with_reducible refine c_go ?_ ?_); (· exact rfl); refine ⟨_, fun G => (by (try simp only [fltT, entsT, List.nil_append, List.cons_append]); rfl), ?_⟩); first | refine c_val _ (fun _ => e_move rfl rfl) (fun _ => rfl) rfl (by first | exact fun _ _ _ => rfl | (intro G G' h; simp (decide := true) only [h])) ?_ | refine c_val _ (fun _ => e_load' rfl rfl (by exact rfl)) (fun _ => rfl) rfl (by first | exact fun _ _ _ => rfl | (intro G G' h; simp (decide := true) only [h])) ?_ | refine c_val _ (fun _ => e_field rfl rfl) (fun _ => rfl) rfl (by first | exact fun _ _ _ => rfl | (intro G G' h; simp (decide := true) only [h])) ?_ | (refine c_cmp rfl rfl (fun _ => rfl) rfl (fun _ => rfl) (fun _ => rfl) (fun h => ?_) (fun h => ?_) <;> (dsimp only [cmpP] at h; (try (exfalso; omega)))) | refine c_val _ (fun _ => e_index (I := n) rfl rfl rfl (by omega) (by omega)) (fun _ => rfl) rfl (by exact fun _ _ _ => rfl) ?_ | refine c_val _ (fun _ => e_index (I := 0) rfl rfl rfl rfl (by omega)) (fun _ => rfl) rfl (by exact fun _ _ _ => rfl) ?_ | refine c_val _ (fun _ => e_sub rfl rfl rfl (IntWalk.i64_in _ (by omega))) (fun _ => rfl) rfl (by first | exact fun _ _ _ => rfl | (intro G G' h; simp (decide := true) only [h])) ?_) | (with_reducible refine c_nil ?_)))
  (intro G; simp only [regsT, entsT, Pend.at_none, List.nil_append, List.cons_append])
  (repeat' (first | ((with_reducible refine isOps ?_); first | refine u_move rfl rfl rfl rfl rfl ?_ | refine u_assign rfl rfl rfl rfl rfl ?_ | (refine x_load rfl rfl rfl rfl rfl ?_; refine ⟨_, rfl, ?_⟩) | refine u_field rfl rfl rfl rfl rfl ?_ | refine u_pick rfl rfl rfl rfl rfl rfl ?_ | (refine u_cmp rfl rfl rfl rfl rfl rfl rfl (fun h => ?_) (fun h => ?_) <;> (dsimp only [cmpP] at h; (try (exfalso; omega)))) | refine u_gives rfl rfl rfl rfl rfl rfl (fun _ _ q => hCk _ _ _ (sl_at q.own (Below.refl _ _))) ?_ | refine u_gives rfl rfl rfl rfl rfl rfl (fun _ _ q => hD1 _ q.below) ?_ | refine u_gives rfl rfl rfl rfl rfl rfl (fun _ _ q => hD2 _ q.below) ?_ | refine u_gives rfl rfl rfl rfl rfl rfl (fun _ _ q => hD3 _ _ _ (sl_at q.own (Below.refl _ _))) ?_ | refine u_extract rfl rfl rfl rfl rfl rfl ?_ | refine u_add rfl rfl rfl rfl rfl rfl (IntWalk.i64_in _ (by omega)) ?_ | refine u_len rfl rfl rfl rfl rfl ?_ | (refine x_store rfl rfl rfl rfl rfl ?_; refine And.intro rfl (And.intro (by first | decide | exact Nat.le_of_ble_eq_true rfl | (simp; omega)) ⟨_, rfl, ?_⟩)) | (refine u_alloc rfl rfl rfl rfl (fun b => ?_))) | (with_reducible first | refine u_seq ?_ | refine u_region ?_ | refine u_nil ?_ | refine u_then_n ?_ | refine u_skip ?_) | ((with_reducible refine u_cond_f ?_ ?_); (· exact rfl))))
  (refine u_chain (by kernel_rfl) [[], [true], [true, true], [true, true, true], [true, true, true, true], [true, true, true, true, true], [true, true, true, true, true, true], [true, true, true, true, true, true, true], [true, true, true, true, true, true, true, true], [true, true, true, true, true, true, true, true, true], [true, true, true, true, true, true, true, true, true, true], [true, true, true, true, true, true, true, true, true, true, true], [false, true, true, true, true, true, true, true, true, true, true, true], [true, false, true, true, true, true, true, true, true, true, true, true, true], [false, false, false, true, true, true, true, true, true, true, true, true, true, true], [true, false, false, false, true, true, true, true, true, true, true, true, true, true, true], [true, true, true, true, false, true, true, true, true, true, true, true, true, true, true, true], [false, false, false, false, false, false, true, true, true, true, true, true, true, true, true, true, true], [true, false, false, false, false, false, false, true, true, true, true, true, true, true, true, true, true, true], [false, false, false, false, false, false, false, false, true, true, true, true, true, true, true, true, true, true, true], [true, false, false, false, false, false, false, false, false, true, true, true, true, true, true, true, true, true, true, true], [true, true, true, true, false, false, false, false, false, false, true, true, true, true, true, true, true, true, true, true, true], [true, true, true, true, true, true, true, true, true, true, false, true, true, true, true, true, true, true, true, true, true, true], [true, true, true, true, true, true, true, true, true, true, true, true, true, true, true, true, true, true, true, true, true, true, true], [true, true, true, true, true, true, true, true, true, true, true, true, true, true, true, true, true, true, true, true, true, true, true, true], [true, true, true, true, true, true, true, true, true, true, true, true, true, true, true, true, true, true, true, true, true, true, true, true, true], [true, true, true, true, true, true, true, true, true, true, true, true, true, true, true, true, true, true, true, true, true, true, true, true, true, true], [false, true, true, true, true, true, true, true, true, true, true, true, true, true, true, true, true, true, true, true, true, true, true, true, true, true, true], [true, false, true, true, true, true, true, true, true, true, true, true, true, true, true, true, true, true, true, true, true, true, true, true, true, true, true, true], [false, false, false, true, true, true, true, true, true, true, true, true, true, true, true, true, true, true, true, true, true, true, true, true, true, true, true, true, true], [true, false, false, false, true, true, true, true, true, true, true, true, true, true, true, true, true, true, true, true, true, true, true, true, true, true, true, true, true, true], [true, true, true, true, false, true, true, true, true, true, true, true, true, true, true, true, true, true, true, true, true, true, true, true, true, true, true, true, true, true, true], [false, false, false, false, false, false, true, true, true, true, true, true, true, true, true, true, true, true, true, true, true, true, true, true, true, true, true, true, true, true, true, true], [true, false, false, false, false, false, false, true, true, true, true, true, true, true, true, true, true, true, true, true, true, true, true, true, true, true, true, true, true, true, true, true, true], [false, false, false, false, false, false, false, false, true, true, true, true, true, true, true, true, true, true, true, true, true, true, true, true, true, true, true, true, true, true, true, true, true, true], [true, false, false, false, false, false, false, false, false, true, true, true, true, true, true, true, true, true, true, true, true, true, true, true, true, true, true, true, true, true, true, true, true, true, true], [true, true, true, true, false, false, false, false, false, false, true, true, true, true, true, true, true, true, true, true, true, true, true, true, true, true, true, true, true, true, true, true, true, true, true, true], [true, true, true, true, true, true, true, true, true, true, false, true, true, true, true, true, true, true, true, true, true, true, true, true, true, true, true, true, true, true, true, true, true, true, true, true, true], [true, true, true, true, true, true, true, true, true, true, true, true, true, true, true, true, true, true, true, true, true, true, true, true, true, true, true, true, true, true, true, true, true, true, true, true, true, true], [true, true, true, true, true, true, true, true, true, true, true, true, true, true, true, true, true, true, true, true, true, true, true, true, true, true, true, true, true, true, true, true, true, true, true, true, true, true, true]] (by kernel_rfl) (by kernel_rfl) ?_)
  (repeat' (first | (((with_reducible refine c_go ?_ ?_); (· exact rfl); refine ⟨_, fun G => (by (try simp only [fltT, entsT, List.nil_append, List.cons_append]); rfl), ?_⟩); first | refine c_val _ (fun _ => e_move rfl rfl) (fun _ => rfl) rfl (by first | exact fun _ _ _ => rfl | (intro G G' h; simp (decide := true) only [h])) ?_ | refine c_val _ (fun _ => e_load' rfl rfl (by exact rfl)) (fun _ => rfl) rfl (by first | exact fun _ _ _ => rfl | (intro G G' h; simp (decide := true) only [h])) ?_ | refine c_val _ (fun _ => e_field rfl rfl) (fun _ => rfl) rfl (by first | exact fun _ _ _ => rfl | (intro G G' h; simp (decide := true) only [h])) ?_ | refine c_val _ (fun _ => e_pick rfl rfl rfl) (fun _ => rfl) rfl (by first | exact fun _ _ _ => rfl | (intro G G' h; simp (decide := true) only [h])) ?_ | (refine c_cmp rfl rfl (fun _ => rfl) rfl (fun _ => rfl) (fun _ => rfl) (fun h => ?_) (fun h => ?_) <;> (dsimp only [cmpP] at h; (try (exfalso; omega)))) | refine c_gives _ rfl (fun _ => rfl) rfl (fun _ => rfl) (fun _ => rfl) (fun _ _ _ q => lspan_any _ _ _) (by first | exact fun _ _ _ => rfl | (intro G G' h; simp (decide := true) only [h])) ?_ | (refine c_nesp rfl (fun _ => rfl) rfl (fun _ => rfl) (fun _ => rfl) (fun h => ?_) (fun h => ?_) <;> (try (exfalso; omega))) | refine c_val _ (fun _ => e_add rfl rfl rfl (IntWalk.i64_in _ (by omega))) (fun _ => rfl) rfl (by first | exact fun _ _ _ => rfl | (intro G G' h; simp (decide := true) only [h])) ?_) | (with_reducible refine c_nil ?_)))
  (intro G; simp only [regsT, entsT, Pend.at_none, List.nil_append, List.cons_append])
  cases hm : msOk a.length l
  · rw [hm] at hM
    (repeat' (first | ((with_reducible refine isOps ?_); first | refine u_move rfl rfl rfl rfl rfl ?_ | refine u_assign rfl rfl rfl rfl rfl ?_ | (refine x_load rfl rfl rfl rfl rfl ?_; refine ⟨_, rfl, ?_⟩) | refine u_gives rfl rfl rfl rfl rfl rfl (fun _ _ q => hM _ q.below) ?_ | refine u_not rfl rfl rfl rfl rfl ?_) | (with_reducible first | refine u_seq ?_ | refine u_region ?_ | refine u_nil ?_ | refine u_then_n ?_ | refine u_ret ?_ | refine u_skip ?_ | refine u_then_r ?_) | ((with_reducible refine u_cond_t ?_ ?_); (· exact rfl)) | ((with_reducible refine u_cond_f ?_ ?_); (· exact rfl))))
    all_goals exact u_done (by (exact ResL.cons (by exact Res1.tmp rfl) ResL.nil)) () trivial rfl (fun _ h => h.sub (by (repeat (first | exact Out.nil _ | (refine Out.cons (by (repeat (first | exact Take.here _ _ | apply Take.there))) ?_)))))
  rw [hm] at hM
  have hml := (msOk_all hm).2
  obtain ⟨m1, m2, m3⟩ := narrow_joined va vb hvj hm
  rw [m2] at hN2
  by_cases he : errN a l = 0
  rotate_left
  · have he8 : errN a l = 8 := by
      rw [errN_yes va hm] at he ⊢
      cases h : rnB a l <;> simp [h] at he ⊢
    rw [he8] at hN1 hN2
    (repeat' (first | ((with_reducible refine isOps ?_); first | refine u_move rfl rfl rfl rfl rfl ?_ | refine u_assign rfl rfl rfl rfl rfl ?_ | (refine x_load rfl rfl rfl rfl rfl ?_; refine ⟨_, rfl, ?_⟩) | refine u_pick rfl rfl rfl rfl rfl rfl ?_ | (refine u_cmp rfl rfl rfl rfl rfl rfl rfl (fun h => ?_) (fun h => ?_) <;> (dsimp only [cmpP] at h; (try (exfalso; omega)))) | refine u_gives rfl rfl rfl rfl rfl rfl (fun _ _ q => hM _ q.below) ?_ | refine u_newsl rfl rfl rfl rfl rfl rfl (fun _ _ q => hN1 _ q.below (by omega)) (fun A' c' => ?_) | refine u_newsl rfl rfl rfl rfl rfl rfl (fun _ _ q => hN2 _ _ _ q.below (sl_at q.own (Below.refl _ _)) (by omega)) (fun A' c' => ?_) | refine u_extract rfl rfl rfl rfl rfl rfl ?_ | refine u_not rfl rfl rfl rfl rfl ?_ | (refine x_store rfl rfl rfl rfl rfl ?_; refine And.intro rfl (And.intro (by first | decide | exact Nat.le_of_ble_eq_true rfl | (simp; omega)) ⟨_, rfl, ?_⟩)) | (refine u_alloc rfl rfl rfl rfl (fun b => ?_))) | (with_reducible first | refine u_seq ?_ | refine u_region ?_ | refine u_nil ?_ | refine u_then_n ?_ | refine u_ret ?_ | refine u_skip ?_ | refine u_then_r ?_) | ((with_reducible refine u_cond_t ?_ ?_); (· exact rfl)) | ((with_reducible refine u_cond_f ?_ ?_); (· exact rfl))))
    all_goals exact u_done (by (exact ResL.cons (by exact Res1.tmp rfl) ResL.nil)) () trivial rfl (fun _ h => h.sub (by (repeat (first | exact Out.nil _ | (refine Out.cons (by (repeat (first | exact Take.here _ _ | apply Take.there))) ?_)))))
  · have m4 := m3 he
    rw [he] at hN1 hN2
    rw [m4] at hN2
    obtain ⟨vN, nN, -⟩ := narrow_again va hm he
    obtain ⟨vM, nM, -⟩ := narrow_again hvj m1 (m2.trans he)
    rw [m4] at vM
    have lN := nN.1
    have e3 : errJ (nT a l) bl = 0 := by simp [errJ, vN, vb, lN, hg, vM]
    have e4 : joinT (nT a l) bl = nT a l ++ bl := by simp [joinT, vN, vb, lN, hg, vM]
    have hJ2 := fun W A c (h : Below w.heap.size w W) (hA : SlAt encSt 9 W A (nT a l)) => join_any (nT a l) bl A _ c cb W hA (hb.below h) (fit_valid vN) fb ⟨by omega, by omega⟩
    rw [e3, e4] at hJ2
    generalize nT a l = N at *
    have l9 : (N ++ bl).length ≤ 1000000 := by rw [List.length_append]; omega
    (repeat' (first | ((with_reducible refine isOps ?_); first | refine u_move rfl rfl rfl rfl rfl ?_ | refine u_assign rfl rfl rfl rfl rfl ?_ | (refine x_load rfl rfl rfl rfl rfl ?_; refine ⟨_, rfl, ?_⟩) | refine u_pick rfl rfl rfl rfl rfl rfl ?_ | (refine u_cmp rfl rfl rfl rfl rfl rfl rfl (fun h => ?_) (fun h => ?_) <;> (dsimp only [cmpP] at h; (try (exfalso; omega)))) | refine u_gives rfl rfl rfl rfl rfl rfl (fun _ _ q => hM _ q.below) ?_ | refine u_newsl rfl rfl rfl rfl rfl rfl (fun _ _ q => hN1 _ q.below (by omega)) (fun A' c' => ?_) | refine u_newsl rfl rfl rfl rfl rfl rfl (fun _ _ q => hN2 _ _ _ q.below (sl_at q.own (Below.refl _ _)) (by omega)) (fun A' c' => ?_) | refine u_newsl rfl rfl rfl rfl rfl rfl (fun _ _ q => hJ2 _ _ _ q.below (sl_at q.own (Below.refl _ _))) (fun A' c' => ?_) | refine u_gives rfl rfl rfl rfl rfl rfl (fun _ _ q => sts_self (N ++ bl) _ _ _ _ _ (sl_at q.own (Below.refl _ _)) (sl_at q.own (Below.refl _ _)) l9) ?_ | refine u_extract rfl rfl rfl rfl rfl rfl ?_ | refine u_not rfl rfl rfl rfl rfl ?_ | (refine x_store rfl rfl rfl rfl rfl ?_; refine And.intro rfl (And.intro (by first | decide | exact Nat.le_of_ble_eq_true rfl | (simp; omega)) ⟨_, rfl, ?_⟩)) | (refine u_alloc rfl rfl rfl rfl (fun b => ?_))) | (with_reducible first | refine u_seq ?_ | refine u_region ?_ | refine u_nil ?_ | refine u_then_n ?_ | refine u_ret ?_ | refine u_skip ?_) | ((with_reducible refine u_cond_f ?_ ?_); (· exact rfl))))
    all_goals exact u_done (by (exact ResL.cons (by exact Res1.tmp rfl) ResL.nil)) () trivial rfl (fun _ h => h.sub (by (repeat (first | exact Out.nil _ | (refine Out.cons (by (repeat (first | exact Take.here _ _ | apply Take.there))) ?_)))))
end Go.Proofs.Ytekjkaoibcfgfaa
