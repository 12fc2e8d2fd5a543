/- At, of both. -/
import Derived.Test.YtekjkaoibcfgfaaW1
namespace Go.Proofs.Ytekjkaoibcfgfaa
set_option linter.unusedVariables false
open Go.RowKit
set_option maxRecDepth 20000
set_option linter.unusedSimpArgs false

theorem spotOk_bd {t : List St} {s : Spot} (h : spotOk t s = true) (ho : ∀ s ∈ t, Okay s) : 0 ≤ s.off.lo ∧ s.off.lo ≤ s.off.hi ∧ s.off.hi ≤ 30000 := by
  obtain ⟨I, hI, hlt⟩ := spotOk_yes h
  obtain ⟨st, off⟩ := s
  simp only at hI ⊢
  subst hI
  rw [spotOk_in hlt, knownB_iff] at h
  have := (ho t[I] (List.getElem_mem hlt)).l1
  have := (ho t[I] (List.getElem_mem hlt)).l2
  omega

theorem stand_1 (t : List St) (s : Spot) : decide ((picks (spotP t) [s]).length = 0) = spotOk t s := by
  have e : picks (spotP t) [s] = picksTo (spotP t) [s] (0 + 1) := rfl
  have h0 : soAt (spotP t) [s] 0 = !spotOk t s := rfl
  rw [e]
  cases h : spotOk t s
  · rw [picksTo_yes (by rw [h0, h]; rfl)]; simp
  · rw [picksTo_no (by rw [h0, h]; rfl)]; simp [picksTo]
theorem stand_2 (t : List St) (a b : Spot) : decide ((picks (spotP t) [a, b]).length = 0) = (spotOk t a && spotOk t b) := by
  have e : picks (spotP t) [a, b] = picksTo (spotP t) [a, b] (0 + 1 + 1) := rfl
  have h0 : soAt (spotP t) [a, b] 0 = !spotOk t a := rfl
  have h1 : soAt (spotP t) [a, b] (0 + 1) = !spotOk t b := rfl
  rw [e]
  cases h : spotOk t b
  · rw [picksTo_yes (by rw [h1, h]; rfl)]; simp
  · rw [picksTo_no (by rw [h1, h]; rfl)]
    cases h2 : spotOk t a
    · rw [picksTo_yes (by rw [h0, h2]; rfl)]; simp
    · rw [picksTo_no (by rw [h0, h2]; rfl)]; simp [picksTo]

set_option maxHeartbeats 1000000 in
theorem stands_any (t : List St) (A : Option Addr) (cap : Nat) (ss : List Spot) (B : Option Addr) (c : Nat) (w : World) (ht : SlAt encSt 9 w A t) (ho : ∀ s ∈ t, Okay s) (hl : t.length ≤ 1000) (hs : SlAt encSpot 3 w B ss) (hsl : ss.length ≤ 1000) :
    Gv Try.prog 69 [.agg #[.slice A t.length cap], .slice B ss.length c] w (.bool (decide ((picks (spotP t) ss).length = 0))) := by
  unfold Gv
  have hpl : (picks (spotP t) ss).length ≤ ss.length := picksTo_len _ _ _
  (refine ret_enter (n := 10) Try.func69 rfl rfl rfl ?_)
  (repeat' (first | ((with_reducible refine isOps ?_); first | refine u_move rfl rfl rfl rfl rfl ?_ | refine u_assign rfl rfl rfl rfl rfl ?_ | (refine u_cmp rfl rfl rfl rfl rfl rfl rfl (fun h => ?_) (fun h => ?_) <;> (dsimp only [cmpP] at h; (try (exfalso; omega)))) | refine u_newsl rfl rfl rfl rfl rfl rfl (fun _ _ q => (pickSpot ss _ _ _ _ (spotP t) _ (hs.below q.below) (by omega) (fun k o W hx hW => stands1_any t A cap k o _ W ((ht.below q.below).below hW) ho hl (cells_of q.own hW)))) (fun A' c' => ?_) | refine u_len rfl rfl rfl rfl rfl ?_ | (refine u_box rfl rfl rfl rfl rfl rfl (fun b => ?_)) | refine u_makeFunc rfl rfl rfl rfl rfl rfl ?_) | (with_reducible first | refine u_seq ?_ | refine u_region ?_ | refine u_nil ?_ | refine u_then_n ?_ | refine u_ret ?_)))
  all_goals exact u_done (by (exact ResL.cons (by exact Res1.tmp rfl) ResL.nil)) () trivial (by first | exact congrArg Value.bool (decide_eq_true (by omega)) | exact congrArg Value.bool (decide_eq_false (by omega))) (fun _ h => h.sub (by (repeat (first | exact Out.nil _ | (refine Out.cons (by (repeat (first | exact Take.here _ _ | apply Take.there))) ?_)))))
theorem stands_1 (t : List St) (A : Option Addr) (cap : Nat) (s : Spot) (B : Option Addr) (w : World) (ht : SlAt encSt 9 w A t) (ho : ∀ s ∈ t, Okay s) (hl : t.length ≤ 1000) (hs : SlAt encSpot 3 w B [s]) :
    Gv Try.prog 69 [.agg #[.slice A t.length cap], .slice B 1 1] w (.bool (spotOk t s)) := by
  rw [← stand_1]; exact stands_any t A cap [s] B 1 w ht ho hl hs (by simp)
theorem stands_2 (t : List St) (A : Option Addr) (cap : Nat) (a b : Spot) (B : Option Addr) (w : World) (ht : SlAt encSt 9 w A t) (ho : ∀ s ∈ t, Okay s) (hl : t.length ≤ 1000) (hs : SlAt encSpot 3 w B [a, b]) :
    Gv Try.prog 69 [.agg #[.slice A t.length cap], .slice B 2 2] w (.bool (spotOk t a && spotOk t b)) := by
  rw [← stand_2]; exact stands_any t A cap [a, b] B 2 w ht ho hl hs (by simp)

set_option maxHeartbeats 1000000 in
theorem rspot_any (t : List St) (A : Option Addr) (cap : Nat) (s : Spot) (w : World) (ht : SlAt encSt 9 w A t) (ho : ∀ s ∈ t, Okay s) (hl : t.length ≤ 1000) :
    Gv Try.prog 71 [.agg #[.slice A t.length cap], vSpot s] w (.bool (spotOk t s)) := by
  unfold Gv vSpot
  obtain ⟨st, off⟩ := s
  by_cases h : 0 ≤ st ∧ st ≤ (t.length : Int) - 1
  · obtain ⟨I, rfl⟩ : ∃ I : Nat, st = I := ⟨st.toNat, by omega⟩
    have hI : I < t.length := by omega
    rw [spotOk_in hI]
    have : GetI t I t[I] := ⟨by simp [hI]⟩
    obtain ⟨bb, o, rfl, hblt, hc⟩ := ht.at_ hI
    have : InS w bb o encSt 9 t := ⟨ht⟩
    obtain ⟨y1, y2, y3, y4, y5, y6, y7, y8⟩ := ho t[I] (List.getElem_mem hI)
    generalize t[I] = z at *
    (refine ret_enter (n := 26) Try.func71 rfl rfl rfl ?_)
    (repeat' (first | ((with_reducible refine isOps ?_); first | refine u_assign rfl rfl rfl rfl rfl ?_ | (refine u_box rfl rfl rfl rfl rfl rfl (fun b => ?_))) | (with_reducible first | refine u_seq ?_ | refine u_region ?_ | refine u_nil ?_ | refine u_then_n ?_)))
    (refine u_chain (by kernel_rfl) [[], [true], [false, false], [true, false, false], [true, true, false, false], [true, true, true, false, false], [true, true, true, true, true, true], [true, true, true, true, true, true, true], [true, true, true, true, true, true, true, true], [true, true, true, true, true, true, true, true, true], [false, false, true, true, true, true, true, true, true, true], [true, false, false, true, true, true, true, true, true, true, true], [false, false, false, false, true, true, true, true, true, true, true, true], [true, false, false, false, false, true, true, true, true, true, true, true, true], [true, true, true, true, false, false, true, true, true, true, true, true, true, true], [true, true, true, true, true, false, false, true, true, true, true, true, true, true, true], [true, true, true, true, true, true, false, false, true, true, true, true, true, true, true, true], [true, true, true, true, true, true, true, false, false, true, true, true, true, true, true, true, true], [true, true, true, true, true, true, true, true, false, false, true, true, true, true, true, true, true, true], [true, true, true, true, true, true, true, true, true, true, true, true, true, true, true, true, true, true, true], [true, true, true, true, true, true, true, true, true, true, true, true, true, true, true, true, true, true, true, true], [true, true, true, true, true, true, true, true, true, true, true, true, true, true, true, true, true, true, true, true, true]] (by kernel_rfl) (by kernel_rfl) ?_)
    (repeat' (first | (((with_reducible refine c_go ?_ ?_); (· exact rfl); refine ⟨_, fun G => (by (try simp only [fltT, entsT, List.nil_append, List.cons_append]); rfl), ?_⟩); first | refine c_val _ (fun _ => e_move rfl rfl) (fun _ => rfl) rfl (by first | exact fun _ _ _ => rfl | (intro G G' h; simp (decide := true) only [h])) ?_ | refine c_val _ (fun _ => e_load' rfl rfl (by exact rfl)) (fun _ => rfl) rfl (by first | exact fun _ _ _ => rfl | (intro G G' h; simp (decide := true) only [h])) ?_ | (refine c_isField rfl ?_; refine c_val _ (fun _ => e_field rfl rfl) (fun _ => rfl) rfl (by first | exact fun _ _ _ => rfl | (intro G G' h; simp (decide := true) only [h])) ?_) | refine c_val _ (fun _ => e_pick rfl rfl rfl) (fun _ => rfl) rfl (by first | exact fun _ _ _ => rfl | (intro G G' h; simp (decide := true) only [h])) ?_ | refine c_val _ (fun _ => e_assign rfl rfl) (fun _ => rfl) rfl (by first | exact fun _ _ _ => rfl | (intro G G' h; simp (decide := true) only [h])) ?_ | (refine c_givesB rfl (fun _ => rfl) rfl (fun _ => rfl) (fun _ => rfl) (fun _ _ _ _ => (within_any _ _ _ _).gv) (fun h => ?_) (fun h => ?_) <;> ((try simp only [inB_iff, inB_no, knownB_iff, knownB_no] at h); (try (exfalso; omega)))) | (refine c_givesB rfl (fun _ => rfl) rfl (fun _ => rfl) (fun _ => rfl) (fun _ _ _ _ => (span_any off 0 _ _).gv) (fun h => ?_) (fun h => ?_) <;> ((try simp only [inB_iff, inB_no, knownB_iff, knownB_no] at h); (try (exfalso; omega)))) | refine c_val _ (fun _ => e_sub rfl rfl rfl (IntWalk.i64_in _ (by omega))) (fun _ => rfl) rfl (by first | exact fun _ _ _ => rfl | (intro G G' h; simp (decide := true) only [h])) ?_ | refine c_val _ (fun _ => e_index rfl rfl rfl rfl (by omega)) (fun _ => rfl) rfl (by first | exact fun _ _ _ => rfl | (intro G G' h; simp (decide := true) only [h])) ?_ | refine c_val _ (fun _ => e_len rfl rfl) (fun _ => rfl) rfl (by first | exact fun _ _ _ => rfl | (intro G G' h; simp (decide := true) only [h])) ?_) | (with_reducible refine c_nil ?_)))
    all_goals
      (intro G; simp only [regsT, entsT, Pend.at_none, List.nil_append, List.cons_append])
      (repeat' (first | (with_reducible first | refine u_then_n ?_ | refine u_ret ?_)))
      exact u_done (by (exact ResL.cons (by exact Res1.tmp rfl) ResL.nil)) () trivial (by first | exact congrArg Value.bool (by rw [knownB_iff.2 (by omega)]) | exact congrArg Value.bool (by rw [knownB_no.2 (by omega)])) (fun _ h => h.sub (by (repeat (first | exact Out.nil _ | (refine Out.cons (by (repeat (first | exact Take.here _ _ | apply Take.there))) ?_)))))
  · rw [spotOk_out h]
    (refine ret_enter (n := 26) Try.func71 rfl rfl rfl ?_)
    (repeat' (first | ((with_reducible refine isOps ?_); first | refine u_assign rfl rfl rfl rfl rfl ?_ | (refine u_box rfl rfl rfl rfl rfl rfl (fun b => ?_))) | (with_reducible first | refine u_seq ?_ | refine u_region ?_ | refine u_nil ?_ | refine u_then_n ?_)))
    (refine u_chain (by kernel_rfl) [[], [true], [false, false], [true, false, false], [true, true, false, false], [true, true, true, false, false], [true, true, true, true, true, true], [true, true, true, true, true, true, true], [true, true, true, true, true, true, true, true], [true, true, true, true, true, true, true, true, true], [false, false, true, true, true, true, true, true, true, true], [true, false, false, true, true, true, true, true, true, true, true], [false, false, false, false, true, true, true, true, true, true, true, true], [true, false, false, false, false, true, true, true, true, true, true, true, true], [true, true, true, true, false, false, true, true, true, true, true, true, true, true], [true, true, true, true, true, false, false, true, true, true, true, true, true, true, true], [true, true, true, true, true, true, false, false, true, true, true, true, true, true, true, true], [true, true, true, true, true, true, true, false, false, true, true, true, true, true, true, true, true], [true, true, true, true, true, true, true, true, false, false, true, true, true, true, true, true, true, true], [true, true, true, true, true, true, true, true, true, true, true, true, true, true, true, true, true, true, true], [true, true, true, true, true, true, true, true, true, true, true, true, true, true, true, true, true, true, true, true], [true, true, true, true, true, true, true, true, true, true, true, true, true, true, true, true, true, true, true, true, true]] (by kernel_rfl) (by kernel_rfl) ?_)
    (repeat' (first | (((with_reducible refine c_go ?_ ?_); (· exact rfl); refine ⟨_, fun G => (by (try simp only [fltT, entsT, List.nil_append, List.cons_append]); rfl), ?_⟩); first | refine c_val _ (fun _ => e_move rfl rfl) (fun _ => rfl) rfl (by first | exact fun _ _ _ => rfl | (intro G G' h; simp (decide := true) only [h])) ?_ | refine c_val _ (fun _ => e_load' rfl rfl (by exact rfl)) (fun _ => rfl) rfl (by first | exact fun _ _ _ => rfl | (intro G G' h; simp (decide := true) only [h])) ?_ | (refine c_isField rfl ?_; refine c_val _ (fun _ => e_field rfl rfl) (fun _ => rfl) rfl (by first | exact fun _ _ _ => rfl | (intro G G' h; simp (decide := true) only [h])) ?_) | refine c_val _ (fun _ => e_pick rfl rfl rfl) (fun _ => rfl) rfl (by first | exact fun _ _ _ => rfl | (intro G G' h; simp (decide := true) only [h])) ?_ | refine c_val _ (fun _ => e_assign rfl rfl) (fun _ => rfl) rfl (by first | exact fun _ _ _ => rfl | (intro G G' h; simp (decide := true) only [h])) ?_ | refine c_not_wanted (fun _ => rfl) rfl ?_ | (refine c_givesB rfl (fun _ => rfl) rfl (fun _ => rfl) (fun _ => rfl) (fun _ _ _ _ => (within_any _ _ _ _).gv) (fun h => ?_) (fun h => ?_) <;> ((try simp only [inB_iff, inB_no, knownB_iff, knownB_no] at h); (try (exfalso; omega)))) | refine c_val _ (fun _ => e_sub rfl rfl rfl (IntWalk.i64_in _ (by omega))) (fun _ => rfl) rfl (by first | exact fun _ _ _ => rfl | (intro G G' h; simp (decide := true) only [h])) ?_ | refine c_val _ (fun _ => e_len rfl rfl) (fun _ => rfl) rfl (by first | exact fun _ _ _ => rfl | (intro G G' h; simp (decide := true) only [h])) ?_) | (with_reducible refine c_nil ?_)))
    (intro G; simp only [regsT, entsT, Pend.at_none, List.nil_append, List.cons_append])
    (repeat' (first | (with_reducible first | refine u_then_n ?_ | refine u_ret ?_)))
    exact u_done (by (exact ResL.cons (by exact Res1.tmp rfl) ResL.nil)) () trivial rfl (fun _ h => h.sub (by (repeat (first | exact Out.nil _ | (refine Out.cons (by (repeat (first | exact Take.here _ _ | apply Take.there))) ?_)))))

def negSp (s : Sp) : Sp := ⟨-s.hi, -s.lo⟩
theorem less_any (s : Sp) (w : World) (h : near 1000000000000 s) : Gv Try.prog 72 [vSp s] w (vSp (negSp s)) := by
  unfold Gv vSp
  obtain ⟨h1, h2, h3, h4⟩ := h
  (refine ret_enter (n := 10) Try.func72 rfl rfl rfl ?_)
  (repeat' (first | ((with_reducible refine isOps ?_); first | (refine x_load rfl rfl rfl rfl rfl ?_; refine ⟨_, rfl, ?_⟩) | refine u_field rfl rfl rfl rfl rfl ?_ | (refine x_store rfl rfl rfl rfl rfl ?_; refine And.intro rfl (And.intro (by first | decide | exact Nat.le_of_ble_eq_true rfl | (simp; omega)) ⟨_, rfl, ?_⟩)) | (refine u_alloc rfl rfl rfl rfl (fun b => ?_)) | (refine u_box rfl rfl rfl rfl rfl rfl (fun b => ?_)) | (refine x_build rfl rfl rfl rfl rfl ?_; refine ⟨_, rfl, ?_⟩) | refine u_neg rfl rfl rfl rfl rfl (by rw [Int.zero_sub]; exact IntWalk.i64_in _ (by omega)) ?_) | (with_reducible first | refine u_seq ?_ | refine u_region ?_ | refine u_nil ?_ | refine u_then_n ?_ | refine u_ret ?_)))
  exact u_done (by (exact ResL.cons (by exact res1c rfl (by exact rfl)) ResL.nil)) () trivial rfl (fun _ h => h.sub (by (repeat (first | exact Out.nil _ | (refine Out.cons (by (repeat (first | exact Take.here _ _ | apply Take.there))) ?_)))))

def atT (t : List St) (s : Spot) : Sp := if valid t && spotOk t s then addSp (mark t s.st.toNat) s.off else ⟨0, 0⟩
def errA (t : List St) (s : Spot) : Int := if valid t then (if spotOk t s then 0 else 12) else 10

set_option maxHeartbeats 1000000 in
theorem at_any (t : List St) (A : Option Addr) (cap : Nat) (s : Spot) (w : World) (ht : SlAt encSt 9 w A t) (hf : FitT t) (hl : t.length ≤ 1000) :
    Gv Try.prog 33 [.agg #[.slice A t.length cap], vSpot s] w (.tuple #[vSp (atT t s), .int .i64 (errA t s)]) := by
  unfold Gv vSpot
  have h1 := fun W (h : Below w.heap.size w W) => open_n t A cap W (ht.below h) hf (by omega)
  cases hv : valid t
  · have e1 : atT t s = ⟨0, 0⟩ := by simp [atT, hv]
    have e2 : errA t s = 10 := by simp [errA, hv]
    rw [e1, e2]
    rw [errT_no hv] at h1
    (refine ret_enter (n := 37) Try.func33 rfl rfl rfl ?_)
    (repeat' (first | ((with_reducible refine isOps ?_); first | refine u_move rfl rfl rfl rfl rfl ?_ | refine u_assign rfl rfl rfl rfl rfl ?_ | (refine x_load rfl rfl rfl rfl rfl ?_; refine ⟨_, rfl, ?_⟩) | (refine u_cmp rfl rfl rfl rfl rfl rfl rfl (fun h => ?_) (fun h => ?_) <;> (dsimp only [cmpP] at h; (try (exfalso; omega)))) | refine u_gives rfl rfl rfl rfl rfl rfl (fun _ _ q => h1 _ q.below) ?_ | refine u_extract rfl rfl rfl rfl rfl rfl ?_ | (refine x_store rfl rfl rfl rfl rfl ?_; refine And.intro rfl (And.intro (by first | decide | exact Nat.le_of_ble_eq_true rfl | (simp; omega)) ⟨_, rfl, ?_⟩)) | (refine u_alloc rfl rfl rfl rfl (fun b => ?_)) | (refine u_box rfl rfl rfl rfl rfl rfl (fun b => ?_)) | (refine x_build rfl rfl rfl rfl rfl ?_; refine ⟨_, rfl, ?_⟩)) | (with_reducible first | refine u_seq ?_ | refine u_region ?_ | refine u_nil ?_ | refine u_then_n ?_ | refine u_ret ?_ | refine u_then_r ?_) | ((with_reducible refine u_cond_t ?_ ?_); (· exact rfl))))
    exact u_done (by (exact ResL.cons (by exact res1c rfl (by exact rfl)) (ResL.cons (by exact Res1.tmp rfl) ResL.nil))) () trivial rfl (fun _ h => h.sub (by (repeat (first | exact Out.nil _ | (refine Out.cons (by (repeat (first | exact Take.here _ _ | apply Take.there))) ?_)))))
  · rw [errT_yes hv] at h1
    have ho := valid_okay hv
    have h2 := fun B W (h : Below w.heap.size w W) hB => stands_1 t A cap s B W (ht.below h) ho hl hB
    have hlen := valid_len hv
    cases hs : spotOk t s
    · have e1 : atT t s = ⟨0, 0⟩ := by simp [atT, hs]
      have e2 : errA t s = 12 := by simp [errA, hv, hs]
      rw [e1, e2]
      rw [hs] at h2
      (refine ret_enter (n := 37) Try.func33 rfl rfl rfl ?_)
      (repeat' (first | ((with_reducible refine isOps ?_); first | refine u_move rfl rfl rfl rfl rfl ?_ | refine u_assign rfl rfl rfl rfl rfl ?_ | (refine x_load rfl rfl rfl rfl rfl ?_; refine ⟨_, rfl, ?_⟩) | (refine u_cmp rfl rfl rfl rfl rfl rfl rfl (fun h => ?_) (fun h => ?_) <;> (dsimp only [cmpP] at h; (try (exfalso; omega)))) | refine u_gives rfl rfl rfl rfl rfl rfl (fun _ _ q => h1 _ q.below) ?_ | refine u_gives rfl rfl rfl rfl rfl rfl (fun _ _ q => h2 _ _ q.below (src_one (enc := encSpot) (by exact rfl) _ q.below q.own)) ?_ | refine u_extract rfl rfl rfl rfl rfl rfl ?_ | refine u_not rfl rfl rfl rfl rfl ?_ | (refine x_store rfl rfl rfl rfl rfl ?_; refine And.intro rfl (And.intro (by first | decide | exact Nat.le_of_ble_eq_true rfl | (simp; omega)) ⟨_, rfl, ?_⟩)) | (refine u_alloc rfl rfl rfl rfl (fun b => ?_)) | (refine u_box rfl rfl rfl rfl rfl rfl (fun b => ?_)) | (refine x_build rfl rfl rfl rfl rfl ?_; refine ⟨_, rfl, ?_⟩) | (refine x_buildSlice rfl rfl rfl rfl rfl ?_; refine ⟨rfl, _, rfl, fun b => ?_⟩)) | (with_reducible first | refine u_seq ?_ | refine u_region ?_ | refine u_nil ?_ | refine u_then_n ?_ | refine u_ret ?_ | refine u_skip ?_ | refine u_then_r ?_) | ((with_reducible refine u_cond_t ?_ ?_); (· exact rfl)) | ((with_reducible refine u_cond_f ?_ ?_); (· exact rfl))))
      exact u_done (by (exact ResL.cons (by exact res1c rfl (by exact rfl)) (ResL.cons (by exact Res1.tmp rfl) ResL.nil))) () trivial rfl (fun _ h => h.sub (by (repeat (first | exact Out.nil _ | (refine Out.cons (by (repeat (first | exact Take.here _ _ | apply Take.there))) ?_)))))
    · have hbd := spotOk_bd hs ho
      obtain ⟨I, hI, hlt⟩ := spotOk_yes hs
      have e1 : atT t s = addSp (longBetween t 0 I) s.off := by simp [atT, hv, hs, hI, mark]
      have e2 : errA t s = 0 := by simp [errA, hv, hs]
      rw [e1, e2]
      rw [hs] at h2
      obtain ⟨st, off⟩ := s
      simp only at hI hbd h2 ⊢
      subst hI
      have h3 : ∀ W, Below w.heap.size w W → Gv Try.prog 60 [.agg #[.slice A t.length cap], .int .i64 0, .int .i64 I] W (.tuple #[vSp (longBetween t 0 I), vSp (fallBetween t 0 I)]) := fun W h => (vdrop_any t A cap 0 I W (ht.below h) ho (by omega) (by omega) (by omega)).gv
      have hb := between_bd ho (Nat.zero_le I) (by omega)
      generalize longBetween t 0 I = L at *
      generalize fallBetween t 0 I = F at *
      have n1 : near 1000000000000 L := by unfold near; omega
      have n2 : ∀ x ∈ [off], near 1000000000 x := by simp [near]; omega
      (refine ret_enter (n := 37) Try.func33 rfl rfl rfl ?_)
      (repeat' (first | ((with_reducible refine isOps ?_); first | refine u_move rfl rfl rfl rfl rfl ?_ | refine u_assign rfl rfl rfl rfl rfl ?_ | (refine x_load rfl rfl rfl rfl rfl ?_; refine ⟨_, rfl, ?_⟩) | refine u_field rfl rfl rfl rfl rfl ?_ | (refine u_cmp rfl rfl rfl rfl rfl rfl rfl (fun h => ?_) (fun h => ?_) <;> (dsimp only [cmpP] at h; (try (exfalso; omega)))) | refine u_gives rfl rfl rfl rfl rfl rfl (fun _ _ q => h1 _ q.below) ?_ | refine u_gives rfl rfl rfl rfl rfl rfl (fun _ _ q => h2 _ _ q.below (src_one (enc := encSpot) (by exact rfl) _ q.below q.own)) ?_ | refine u_gives rfl rfl rfl rfl rfl rfl (fun _ _ q => h3 _ q.below) ?_ | refine u_gives rfl rfl rfl rfl rfl rfl (fun _ _ q => (plus_any L [off] _ _ _ (src_one (enc := encSp) (by exact rfl) _ q.below q.own) n1 n2 (by simp)).gv) ?_ | refine u_extract rfl rfl rfl rfl rfl rfl ?_ | refine u_not rfl rfl rfl rfl rfl ?_ | (refine x_store rfl rfl rfl rfl rfl ?_; refine And.intro rfl (And.intro (by first | decide | exact Nat.le_of_ble_eq_true rfl | (simp; omega)) ⟨_, rfl, ?_⟩)) | (refine u_alloc rfl rfl rfl rfl (fun b => ?_)) | (refine u_box rfl rfl rfl rfl rfl rfl (fun b => ?_)) | (refine x_buildSlice rfl rfl rfl rfl rfl ?_; refine ⟨rfl, _, rfl, fun b => ?_⟩)) | (with_reducible first | refine u_seq ?_ | refine u_region ?_ | refine u_nil ?_ | refine u_then_n ?_ | refine u_ret ?_ | refine u_skip ?_) | ((with_reducible refine u_cond_f ?_ ?_); (· exact rfl))))
      exact u_done (by (exact ResL.cons (by exact res1c rfl (by exact rfl)) (ResL.cons (by exact Res1.tmp rfl) ResL.nil))) () trivial rfl (fun _ h => h.sub (by (repeat (first | exact Out.nil _ | (refine Out.cons (by (repeat (first | exact Take.here _ _ | apply Take.there))) ?_)))))

set_option maxHeartbeats 1000000 in
theorem rAt_any (t : List St) (A : Option Addr) (cap : Nat) (s : Spot) (w : World) (ht : SlAt encSt 9 w A t) (hf : FitT t) (hl : t.length ≤ 1000) :
    Gv Try.prog 34 [.agg #[.slice A t.length cap], vSpot s] w (.tuple #[vSp (atT t s), .int .i64 (errA t s)]) := by
  unfold Gv vSpot
  have h1 := fun W (h : Below w.heap.size w W) => track_n t A cap W (ht.below h) hf (by omega)
  cases hv : valid t
  · have e1 : atT t s = ⟨0, 0⟩ := by simp [atT, hv]
    have e2 : errA t s = 10 := by simp [errA, hv]
    rw [e1, e2]
    rw [hv] at h1
    (refine ret_enter (n := 35) Try.func34 rfl rfl rfl ?_)
    (repeat' (first | ((with_reducible refine isOps ?_); first | refine u_assign rfl rfl rfl rfl rfl ?_ | (refine x_load rfl rfl rfl rfl rfl ?_; refine ⟨_, rfl, ?_⟩) | refine u_gives rfl rfl rfl rfl rfl rfl (fun _ _ q => h1 _ q.below) ?_ | refine u_not rfl rfl rfl rfl rfl ?_ | (refine x_store rfl rfl rfl rfl rfl ?_; refine And.intro rfl (And.intro (by first | decide | exact Nat.le_of_ble_eq_true rfl | (simp; omega)) ⟨_, rfl, ?_⟩)) | (refine u_alloc rfl rfl rfl rfl (fun b => ?_)) | (refine u_box rfl rfl rfl rfl rfl rfl (fun b => ?_)) | (refine x_build rfl rfl rfl rfl rfl ?_; refine ⟨_, rfl, ?_⟩)) | (with_reducible first | refine u_seq ?_ | refine u_region ?_ | refine u_nil ?_ | refine u_then_n ?_ | refine u_ret ?_ | refine u_then_r ?_) | ((with_reducible refine u_cond_t ?_ ?_); (· exact rfl))))
    exact u_done (by (exact ResL.cons (by exact res1c rfl (by exact rfl)) (ResL.cons (by exact Res1.tmp rfl) ResL.nil))) () trivial rfl (fun _ h => h.sub (by (repeat (first | exact Out.nil _ | (refine Out.cons (by (repeat (first | exact Take.here _ _ | apply Take.there))) ?_)))))
  · rw [hv] at h1
    have ho := valid_okay hv
    have h2 := fun W (h : Below w.heap.size w W) => rspot_any t A cap s W (ht.below h) ho hl
    have hlen := valid_len hv
    cases hs : spotOk t s
    · have e1 : atT t s = ⟨0, 0⟩ := by simp [atT, hs]
      have e2 : errA t s = 12 := by simp [errA, hv, hs]
      rw [e1, e2]
      rw [hs] at h2
      (refine ret_enter (n := 35) Try.func34 rfl rfl rfl ?_)
      (repeat' (first | ((with_reducible refine isOps ?_); first | refine u_assign rfl rfl rfl rfl rfl ?_ | (refine x_load rfl rfl rfl rfl rfl ?_; refine ⟨_, rfl, ?_⟩) | refine u_gives rfl rfl rfl rfl rfl rfl (fun _ _ q => h1 _ q.below) ?_ | refine u_gives rfl rfl rfl rfl rfl rfl (fun _ _ q => h2 _ q.below) ?_ | refine u_not rfl rfl rfl rfl rfl ?_ | (refine x_store rfl rfl rfl rfl rfl ?_; refine And.intro rfl (And.intro (by first | decide | exact Nat.le_of_ble_eq_true rfl | (simp; omega)) ⟨_, rfl, ?_⟩)) | (refine u_alloc rfl rfl rfl rfl (fun b => ?_)) | (refine u_box rfl rfl rfl rfl rfl rfl (fun b => ?_)) | (refine x_build rfl rfl rfl rfl rfl ?_; refine ⟨_, rfl, ?_⟩)) | (with_reducible first | refine u_seq ?_ | refine u_region ?_ | refine u_nil ?_ | refine u_then_n ?_ | refine u_ret ?_ | refine u_skip ?_ | refine u_then_r ?_) | ((with_reducible refine u_cond_t ?_ ?_); (· exact rfl)) | ((with_reducible refine u_cond_f ?_ ?_); (· exact rfl))))
      exact u_done (by (exact ResL.cons (by exact res1c rfl (by exact rfl)) (ResL.cons (by exact Res1.tmp rfl) ResL.nil))) () trivial rfl (fun _ h => h.sub (by (repeat (first | exact Out.nil _ | (refine Out.cons (by (repeat (first | exact Take.here _ _ | apply Take.there))) ?_)))))
    · have hbd := spotOk_bd hs ho
      obtain ⟨I, hI, hlt⟩ := spotOk_yes hs
      have e1 : atT t s = addSp (mark t I) s.off := by simp [atT, hv, hs, hI]
      have e2 : errA t s = 0 := by simp [errA, hv, hs]
      rw [e1, e2]
      rw [hs] at h2
      obtain ⟨st, off⟩ := s
      simp only at hI hbd h2 ⊢
      subst hI
      have hb := between_bd ho (Nat.zero_le I) (by omega)
      have hml : (marks t).length = t.length + 1 := by simp [marks]
      have : GetI (marks t) I (mark t I) := ⟨by rw [marks, List.getElem?_map, List.getElem?_range (by omega)]; rfl⟩
      have h3 := fun W (h : Below w.heap.size w W) => rmarks_n t A cap W (ht.below h) ho hl
      generalize marks t = M at *
      rw [show longBetween t 0 I = mark t I from rfl] at hb
      generalize mark t I = L at *
      (refine ret_enter (n := 35) Try.func34 rfl rfl rfl ?_)
      (repeat' (first | ((with_reducible refine isOps ?_); first | refine u_assign rfl rfl rfl rfl rfl ?_ | (refine x_load rfl rfl rfl rfl rfl ?_; refine ⟨_, rfl, ?_⟩) | refine u_gives rfl rfl rfl rfl rfl rfl (fun _ _ q => h1 _ q.below) ?_ | refine u_gives rfl rfl rfl rfl rfl rfl (fun _ _ q => h2 _ q.below) ?_ | refine u_not rfl rfl rfl rfl rfl ?_ | (refine u_alloc rfl rfl rfl rfl (fun b => ?_)) | (refine u_box rfl rfl rfl rfl rfl rfl (fun b => ?_))) | (with_reducible first | refine u_seq ?_ | refine u_region ?_ | refine u_nil ?_ | refine u_then_n ?_ | refine u_skip ?_) | ((with_reducible refine u_cond_f ?_ ?_); (· exact rfl))))
      (refine u_chain (by kernel_rfl) [[], [true], [false, false], [true, false, false], [true, true, true, true], [true, true, true, true, true], [false, false, false, false, false, false], [true, true, true, true, true, true, true]] (by kernel_rfl) (by kernel_rfl) ?_)
      (repeat' (first | (((with_reducible refine c_go ?_ ?_); (· exact rfl); refine ⟨_, fun G => (by (try simp only [fltT, entsT, List.nil_append, List.cons_append]); rfl), ?_⟩); first | refine c_val _ (fun _ => e_load' rfl rfl (by exact rfl)) (fun _ => rfl) rfl (by first | exact fun _ _ _ => rfl | (intro G G' h; simp (decide := true) only [h])) ?_ | (refine c_isField rfl ?_; refine c_val _ (fun _ => e_field rfl rfl) (fun _ => rfl) rfl (by first | exact fun _ _ _ => rfl | (intro G G' h; simp (decide := true) only [h])) ?_) | refine c_newslS rfl (fun _ => rfl) rfl (fun _ => rfl) (fun _ => rfl) (fun _ _ _ q => h3 _ q.below) (by omega) ?_ | refine c_val _ (fun _ => e_index rfl rfl rfl rfl (by omega)) (fun _ => rfl) rfl (by first | exact fun _ _ _ => rfl | (intro G G' h; simp (decide := true) only [h])) ?_ | refine c_alloc rfl (fun _ => rfl) rfl ?_) | ((with_reducible refine c_tail ?_ ?_); (· exact rfl))))
      (intro G; simp only [regsT, entsT, Pend.at_none, List.nil_append, List.cons_append])
      (repeat' (first | ((with_reducible refine isOps ?_); first | refine u_assign rfl rfl rfl rfl rfl ?_ | (refine x_load rfl rfl rfl rfl rfl ?_; refine ⟨_, rfl, ?_⟩) | refine u_field rfl rfl rfl rfl rfl ?_ | refine u_add rfl rfl rfl rfl rfl rfl (IntWalk.i64_in _ (by omega)) ?_ | (refine x_store rfl rfl rfl rfl rfl ?_; refine And.intro rfl (And.intro (by first | decide | exact Nat.le_of_ble_eq_true rfl | (simp; omega)) ⟨_, rfl, ?_⟩)) | (refine x_build rfl rfl rfl rfl rfl ?_; refine ⟨_, rfl, ?_⟩)) | (with_reducible first | refine u_seq ?_ | refine u_region ?_ | refine u_nil ?_ | refine u_then_n ?_ | refine u_ret ?_)))
      exact u_done (by (exact ResL.cons (by exact res1c rfl (by exact rfl)) (ResL.cons (by exact Res1.tmp rfl) ResL.nil))) () trivial rfl (fun _ h => h.sub (by (repeat (first | exact Out.nil _ | (refine Out.cons (by (repeat (first | exact Take.here _ _ | apply Take.there))) ?_)))))
end Go.Proofs.Ytekjkaoibcfgfaa
