/- Apart, of both. -/
import Derived.Test.YtekjkaoibcfgfaaW2
namespace Go.Proofs.Ytekjkaoibcfgfaa
set_option linter.unusedVariables false
open Go.RowKit
set_option maxRecDepth 20000
set_option linter.unusedSimpArgs false

/-- from a spot to one that isn't before it -/
def ap0 (t : List St) (a b : Spot) : Sp := ⟨(longBetween t a.st.toNat b.st.toNat).lo + b.off.lo - a.off.hi, (longBetween t a.st.toNat b.st.toNat).hi + b.off.hi - a.off.lo⟩
def apT (t : List St) (a b : Spot) : Sp := if valid t && (spotOk t a && spotOk t b) then (if b.st < a.st then negSp (ap0 t b a) else ap0 t a b) else ⟨0, 0⟩
def errB (t : List St) (a b : Spot) : Int := if valid t then (if spotOk t a && spotOk t b then 0 else 12) else 10

set_option maxHeartbeats 2000000 in
theorem apart_any (t : List St) (A : Option Addr) (cap : Nat) (a b : Spot) (w : World) (ht : SlAt encSt 9 w A t) (hf : FitT t) (hl : t.length ≤ 1000) :
    Gv Try.prog 35 [.agg #[.slice A t.length cap], vSpot a, vSpot b] w (.tuple #[vSp (apT t a b), .int .i64 (errB t a b)]) := by
  unfold Gv vSpot
  have h1 := fun W (h : Below w.heap.size w W) => open_n t A cap W (ht.below h) hf (by omega)
  cases hv : valid t
  · have e1 : apT t a b = ⟨0, 0⟩ := by simp [apT, hv]
    have e2 : errB t a b = 10 := by simp [errB, hv]
    rw [e1, e2]
    rw [errT_no hv] at h1
    (refine ret_enter (n := 58) Try.func35 rfl rfl rfl ?_)
    (repeat' (first | ((with_reducible refine isOps ?_); first | refine u_move rfl rfl rfl rfl rfl ?_ | refine u_assign rfl rfl rfl rfl rfl ?_ | (refine x_load rfl rfl rfl rfl rfl ?_; refine ⟨_, rfl, ?_⟩) | (refine u_cmp rfl rfl rfl rfl rfl rfl rfl (fun h => ?_) (fun h => ?_) <;> (dsimp only [cmpP] at h; (try (exfalso; omega)))) | refine u_gives rfl rfl rfl rfl rfl rfl (fun _ _ q => h1 _ q.below) ?_ | refine u_extract rfl rfl rfl rfl rfl rfl ?_ | (refine x_store rfl rfl rfl rfl rfl ?_; refine And.intro rfl (And.intro (by first | decide | exact Nat.le_of_ble_eq_true rfl | (simp; omega)) ⟨_, rfl, ?_⟩)) | (refine u_alloc rfl rfl rfl rfl (fun b => ?_)) | (refine u_box rfl rfl rfl rfl rfl rfl (fun b => ?_)) | (refine x_build rfl rfl rfl rfl rfl ?_; refine ⟨_, rfl, ?_⟩)) | (with_reducible first | refine u_seq ?_ | refine u_region ?_ | refine u_nil ?_ | refine u_then_n ?_ | refine u_ret ?_ | refine u_then_r ?_) | ((with_reducible refine u_cond_t ?_ ?_); (· exact rfl))))
    exact u_done (by (exact ResL.cons (by exact res1c rfl (by exact rfl)) (ResL.cons (by exact Res1.tmp rfl) ResL.nil))) () trivial rfl (fun _ h => h.sub (by (repeat (first | exact Out.nil _ | (refine Out.cons (by (repeat (first | exact Take.here _ _ | apply Take.there))) ?_)))))
  · rw [errT_yes hv] at h1
    have ho := valid_okay hv
    have h2 := fun B W (h : Below w.heap.size w W) hB => stands_2 t A cap a b B W (ht.below h) ho hl hB
    have hlen := valid_len hv
    cases hs : (spotOk t a && spotOk t b)
    · have e1 : apT t a b = ⟨0, 0⟩ := by simp only [apT, hs, Bool.and_false]; rfl
      have e2 : errB t a b = 12 := by simp only [errB, hv, hs]; rfl
      rw [e1, e2]
      rw [hs] at h2
      (refine ret_enter (n := 58) Try.func35 rfl rfl rfl ?_)
      (repeat' (first | ((with_reducible refine isOps ?_); first | refine u_move rfl rfl rfl rfl rfl ?_ | refine u_assign rfl rfl rfl rfl rfl ?_ | (refine x_load rfl rfl rfl rfl rfl ?_; refine ⟨_, rfl, ?_⟩) | (refine u_cmp rfl rfl rfl rfl rfl rfl rfl (fun h => ?_) (fun h => ?_) <;> (dsimp only [cmpP] at h; (try (exfalso; omega)))) | refine u_gives rfl rfl rfl rfl rfl rfl (fun _ _ q => h1 _ q.below) ?_ | refine u_gives rfl rfl rfl rfl rfl rfl (fun _ _ q => h2 _ _ q.below (src_many (enc := encSpot) [_, _] (by exact rfl) _ q.below q.own)) ?_ | refine u_extract rfl rfl rfl rfl rfl rfl ?_ | refine u_not rfl rfl rfl rfl rfl ?_ | (refine x_store rfl rfl rfl rfl rfl ?_; refine And.intro rfl (And.intro (by first | decide | exact Nat.le_of_ble_eq_true rfl | (simp; omega)) ⟨_, rfl, ?_⟩)) | (refine u_alloc rfl rfl rfl rfl (fun b => ?_)) | (refine u_box rfl rfl rfl rfl rfl rfl (fun b => ?_)) | (refine x_build rfl rfl rfl rfl rfl ?_; refine ⟨_, rfl, ?_⟩) | (refine x_buildSlice rfl rfl rfl rfl rfl ?_; refine ⟨rfl, _, rfl, fun b => ?_⟩)) | (with_reducible first | refine u_seq ?_ | refine u_region ?_ | refine u_nil ?_ | refine u_then_n ?_ | refine u_ret ?_ | refine u_skip ?_ | refine u_then_r ?_) | ((with_reducible refine u_cond_t ?_ ?_); (· exact rfl)) | ((with_reducible refine u_cond_f ?_ ?_); (· exact rfl))))
      exact u_done (by (exact ResL.cons (by exact res1c rfl (by exact rfl)) (ResL.cons (by exact Res1.tmp rfl) ResL.nil))) () trivial rfl (fun _ h => h.sub (by (repeat (first | exact Out.nil _ | (refine Out.cons (by (repeat (first | exact Take.here _ _ | apply Take.there))) ?_)))))
    · have hs' := hs
      simp only [Bool.and_eq_true] at hs'
      have bda := spotOk_bd hs'.1 ho
      have bdb := spotOk_bd hs'.2 ho
      obtain ⟨I, hI, hlI⟩ := spotOk_yes hs'.1
      obtain ⟨J, hJ, hlJ⟩ := spotOk_yes hs'.2
      have e1 : apT t a b = if b.st < a.st then negSp (ap0 t b a) else ap0 t a b := by simp only [apT, hv, hs, Bool.and_true]; rfl
      have e2 : errB t a b = 0 := by simp only [errB, hv, hs]; rfl
      rw [e1, e2]
      rw [hs] at h2
      obtain ⟨st, off⟩ := a
      obtain ⟨st2, off2⟩ := b
      simp only at hI hJ bda bdb h2 ⊢
      subst hI hJ
      have nn : near 1000000000000 off := by unfold near; omega
      by_cases hij : J < I
      · have h3 : ∀ W, Below w.heap.size w W → Gv Try.prog 60 [.agg #[.slice A t.length cap], .int .i64 (min (I : Int) J), .int .i64 (max (I : Int) J)] W (.tuple #[vSp (longBetween t J I), vSp (fallBetween t J I)]) := fun W h => by
          rw [show min (I : Int) J = J by omega, show max (I : Int) J = I by omega]
          exact (vdrop_any t A cap J I W (ht.below h) ho (by omega) (by omega) (by omega)).gv
        have hb := between_bd ho (Nat.le_of_lt hij) (by omega)
        have e3 : ap0 t ⟨(J : Int), off2⟩ ⟨(I : Int), off⟩ = ⟨(longBetween t J I).lo + off.lo - off2.hi, (longBetween t J I).hi + off.hi - off2.lo⟩ := rfl
        rw [if_pos (by omega), e3]
        generalize longBetween t J I = L at *
        generalize fallBetween t J I = F at *
        have e9 : negSp ⟨L.lo + off.lo - off2.hi, L.hi + off.hi - off2.lo⟩ = [off2, negSp off].foldl addSp (negSp L) := by
          simp only [List.foldl_cons, List.foldl_nil, addSp, negSp, Sp.mk.injEq]; omega
        rw [e9]
        have n1 : near 1000000000000 L := by unfold near; omega
        have n2 : ∀ x ∈ [off2, negSp off], near 1000000000 x := by simp [near, negSp]; omega
        have n3 : near 1000000000000 (negSp L) := by simp only [near, negSp]; omega
        (refine ret_enter (n := 58) Try.func35 rfl rfl rfl ?_)
        (repeat' (first | ((with_reducible refine isOps ?_); first | refine u_move rfl rfl rfl rfl rfl ?_ | refine u_assign rfl rfl rfl rfl rfl ?_ | (refine x_load rfl rfl rfl rfl rfl ?_; refine ⟨_, rfl, ?_⟩) | refine u_field rfl rfl rfl rfl rfl ?_ | (refine u_cmp rfl rfl rfl rfl rfl rfl rfl (fun h => ?_) (fun h => ?_) <;> (dsimp only [cmpP] at h; (try (exfalso; omega)))) | refine u_gives rfl rfl rfl rfl rfl rfl (fun _ _ q => h1 _ q.below) ?_ | refine u_gives rfl rfl rfl rfl rfl rfl (fun _ _ q => h2 _ _ q.below (src_many (enc := encSpot) [_, _] (by exact rfl) _ q.below q.own)) ?_ | refine u_gives rfl rfl rfl rfl rfl rfl (fun _ _ q => h3 _ q.below) ?_ | refine u_gives rfl rfl rfl rfl rfl rfl (fun _ _ q => less_any L _ n1) ?_ | refine u_extract rfl rfl rfl rfl rfl rfl ?_ | refine u_not rfl rfl rfl rfl rfl ?_ | (refine x_store rfl rfl rfl rfl rfl ?_; refine And.intro rfl (And.intro (by first | decide | exact Nat.le_of_ble_eq_true rfl | (simp; omega)) ⟨_, rfl, ?_⟩)) | (refine u_alloc rfl rfl rfl rfl (fun b => ?_)) | (refine u_box rfl rfl rfl rfl rfl rfl (fun b => ?_)) | (refine x_buildSlice rfl rfl rfl rfl rfl ?_; refine ⟨rfl, _, rfl, fun b => ?_⟩) | refine u_min rfl rfl rfl rfl rfl rfl ?_ | refine u_max rfl rfl rfl rfl rfl rfl ?_) | (with_reducible first | refine u_seq ?_ | refine u_region ?_ | refine u_nil ?_ | refine u_then_n ?_ | refine u_skip ?_) | ((with_reducible refine u_cond_t ?_ ?_); (· exact rfl)) | ((with_reducible refine u_cond_f ?_ ?_); (· exact rfl))))
        (refine u_chain (by kernel_rfl) [[], [false], [true, false], [false, false, false], [true, false, false, false], [true, true, false, false, false], [true, true, true, true, true, false], [true, true, true, true, true, true, true], [true, true, true, true, true, true, true, true], [true, true, true, true, true, true, true, true, true]] (by kernel_rfl) (by kernel_rfl) ?_)
        (repeat' (first | (((with_reducible refine c_go ?_ ?_); (· exact rfl); refine ⟨_, fun G => (by (try simp only [fltT, entsT, List.nil_append, List.cons_append]); rfl), ?_⟩); first | refine c_val _ (fun _ => e_load' rfl rfl (by exact rfl)) (fun _ => rfl) rfl (by first | exact fun _ _ _ => rfl | (intro G G' h; simp (decide := true) only [h])) ?_ | (refine c_isField rfl ?_; refine c_val _ (fun _ => e_field rfl rfl) (fun _ => rfl) rfl (by first | exact fun _ _ _ => rfl | (intro G G' h; simp (decide := true) only [h])) ?_) | refine c_gives _ rfl (fun _ => rfl) rfl (fun _ => rfl) (fun _ => rfl) (fun _ _ _ q => less_any off _ nn) (by first | exact fun _ _ _ => rfl | (intro G G' h; simp (decide := true) only [h])) ?_ | refine c_gives _ rfl (fun _ => rfl) rfl (fun _ => rfl) (fun _ => rfl) (fun _ _ _ q => (plus_any (negSp L) [off2, negSp off] _ _ _ (src_many (enc := encSp) [_, _] (by exact rfl) _ q.below q.own) n3 n2 (by simp)).gv) (by first | exact fun _ _ _ => rfl | (intro G G' h; simp (decide := true) only [h])) ?_ | refine c_buildSlice rfl (fun _ => rfl) rfl (fun _ => rfl) (by exact rfl) (by exact fun _ => rfl) (by first | exact fun _ _ _ => rfl | (intro G G' h; simp (decide := true) only [h])) ?_) | ((with_reducible refine c_tail ?_ ?_); (· exact rfl))))
        (intro G; simp only [regsT, entsT, Pend.at_none, List.nil_append, List.cons_append])
        (repeat' (first | ((with_reducible refine isOps ?_); first | refine u_assign rfl rfl rfl rfl rfl ?_ | (refine x_store rfl rfl rfl rfl rfl ?_; refine And.intro rfl (And.intro (by first | decide | exact Nat.le_of_ble_eq_true rfl | (simp; omega)) ⟨_, rfl, ?_⟩))) | (with_reducible first | refine u_nil ?_ | refine u_then_n ?_ | refine u_ret ?_)))
        exact u_done (by (exact ResL.cons (by exact res1c rfl (by exact rfl)) (ResL.cons (by exact Res1.tmp rfl) ResL.nil))) () trivial rfl (fun _ h => h.sub (by (repeat (first | exact Out.nil _ | (refine Out.cons (by (repeat (first | exact Take.here _ _ | apply Take.there))) ?_)))))
      · have h3 : ∀ W, Below w.heap.size w W → Gv Try.prog 60 [.agg #[.slice A t.length cap], .int .i64 (min (I : Int) J), .int .i64 (max (I : Int) J)] W (.tuple #[vSp (longBetween t I J), vSp (fallBetween t I J)]) := fun W h => by
          rw [show min (I : Int) J = I by omega, show max (I : Int) J = J by omega]
          exact (vdrop_any t A cap I J W (ht.below h) ho (by omega) (by omega) (by omega)).gv
        have hb := between_bd ho (Nat.le_of_not_lt hij) (by omega)
        have e3 : ap0 t ⟨(I : Int), off⟩ ⟨(J : Int), off2⟩ = ⟨(longBetween t I J).lo + off2.lo - off.hi, (longBetween t I J).hi + off2.hi - off.lo⟩ := rfl
        rw [if_neg (by omega), e3]
        generalize longBetween t I J = L at *
        generalize fallBetween t I J = F at *
        have e9 : (⟨L.lo + off2.lo - off.hi, L.hi + off2.hi - off.lo⟩ : Sp) = [off2, negSp off].foldl addSp L := by
          simp only [List.foldl_cons, List.foldl_nil, addSp, negSp, Sp.mk.injEq]; omega
        rw [e9]
        have n1 : near 1000000000000 L := by unfold near; omega
        have n2 : ∀ x ∈ [off2, negSp off], near 1000000000 x := by simp [near, negSp]; omega
        (refine ret_enter (n := 58) Try.func35 rfl rfl rfl ?_)
        (repeat' (first | ((with_reducible refine isOps ?_); first | refine u_move rfl rfl rfl rfl rfl ?_ | refine u_assign rfl rfl rfl rfl rfl ?_ | (refine x_load rfl rfl rfl rfl rfl ?_; refine ⟨_, rfl, ?_⟩) | refine u_field rfl rfl rfl rfl rfl ?_ | (refine u_cmp rfl rfl rfl rfl rfl rfl rfl (fun h => ?_) (fun h => ?_) <;> (dsimp only [cmpP] at h; (try (exfalso; omega)))) | refine u_gives rfl rfl rfl rfl rfl rfl (fun _ _ q => h1 _ q.below) ?_ | refine u_gives rfl rfl rfl rfl rfl rfl (fun _ _ q => h2 _ _ q.below (src_many (enc := encSpot) [_, _] (by exact rfl) _ q.below q.own)) ?_ | refine u_gives rfl rfl rfl rfl rfl rfl (fun _ _ q => h3 _ q.below) ?_ | refine u_extract rfl rfl rfl rfl rfl rfl ?_ | refine u_not rfl rfl rfl rfl rfl ?_ | (refine x_store rfl rfl rfl rfl rfl ?_; refine And.intro rfl (And.intro (by first | decide | exact Nat.le_of_ble_eq_true rfl | (simp; omega)) ⟨_, rfl, ?_⟩)) | (refine u_alloc rfl rfl rfl rfl (fun b => ?_)) | (refine u_box rfl rfl rfl rfl rfl rfl (fun b => ?_)) | (refine x_buildSlice rfl rfl rfl rfl rfl ?_; refine ⟨rfl, _, rfl, fun b => ?_⟩) | refine u_min rfl rfl rfl rfl rfl rfl ?_ | refine u_max rfl rfl rfl rfl rfl rfl ?_) | (with_reducible first | refine u_seq ?_ | refine u_region ?_ | refine u_nil ?_ | refine u_then_n ?_ | refine u_skip ?_) | ((with_reducible refine u_cond_f ?_ ?_); (· exact rfl))))
        (refine u_chain (by kernel_rfl) [[], [false], [true, false], [false, false, false], [true, false, false, false], [true, true, false, false, false], [true, true, true, true, true, false], [true, true, true, true, true, true, true], [true, true, true, true, true, true, true, true], [true, true, true, true, true, true, true, true, true]] (by kernel_rfl) (by kernel_rfl) ?_)
        (repeat' (first | (((with_reducible refine c_go ?_ ?_); (· exact rfl); refine ⟨_, fun G => (by (try simp only [fltT, entsT, List.nil_append, List.cons_append]); rfl), ?_⟩); first | refine c_val _ (fun _ => e_load' rfl rfl (by exact rfl)) (fun _ => rfl) rfl (by first | exact fun _ _ _ => rfl | (intro G G' h; simp (decide := true) only [h])) ?_ | (refine c_isField rfl ?_; refine c_val _ (fun _ => e_field rfl rfl) (fun _ => rfl) rfl (by first | exact fun _ _ _ => rfl | (intro G G' h; simp (decide := true) only [h])) ?_) | refine c_gives _ rfl (fun _ => rfl) rfl (fun _ => rfl) (fun _ => rfl) (fun _ _ _ q => less_any off _ nn) (by first | exact fun _ _ _ => rfl | (intro G G' h; simp (decide := true) only [h])) ?_ | refine c_gives _ rfl (fun _ => rfl) rfl (fun _ => rfl) (fun _ => rfl) (fun _ _ _ q => (plus_any L [off2, negSp off] _ _ _ (src_many (enc := encSp) [_, _] (by exact rfl) _ q.below q.own) n1 n2 (by simp)).gv) (by first | exact fun _ _ _ => rfl | (intro G G' h; simp (decide := true) only [h])) ?_ | refine c_buildSlice rfl (fun _ => rfl) rfl (fun _ => rfl) (by exact rfl) (by exact fun _ => rfl) (by first | exact fun _ _ _ => rfl | (intro G G' h; simp (decide := true) only [h])) ?_) | ((with_reducible refine c_tail ?_ ?_); (· exact rfl))))
        (intro G; simp only [regsT, entsT, Pend.at_none, List.nil_append, List.cons_append])
        (repeat' (first | ((with_reducible refine isOps ?_); first | refine u_assign rfl rfl rfl rfl rfl ?_ | (refine x_store rfl rfl rfl rfl rfl ?_; refine And.intro rfl (And.intro (by first | decide | exact Nat.le_of_ble_eq_true rfl | (simp; omega)) ⟨_, rfl, ?_⟩))) | (with_reducible first | refine u_nil ?_ | refine u_then_n ?_ | refine u_ret ?_)))
        exact u_done (by (exact ResL.cons (by exact res1c rfl (by exact rfl)) (ResL.cons (by exact Res1.tmp rfl) ResL.nil))) () trivial rfl (fun _ h => h.sub (by (repeat (first | exact Out.nil _ | (refine Out.cons (by (repeat (first | exact Take.here _ _ | apply Take.there))) ?_)))))

set_option maxHeartbeats 2000000 in
theorem rApart_le (t : List St) (A : Option Addr) (cap : Nat) (a b : Spot) (w : World) (ht : SlAt encSt 9 w A t) (hf : FitT t) (hl : t.length ≤ 1000) (hv : valid t = true) (hs1 : spotOk t a = true) (hs2 : spotOk t b = true) (hle : a.st ≤ b.st) :
    Gv Try.prog 36 [.agg #[.slice A t.length cap], vSpot a, vSpot b] w (.tuple #[vSp (ap0 t a b), .int .i64 0]) := by
  unfold Gv vSpot
  have h1 := fun W (h : Below w.heap.size w W) => track_n t A cap W (ht.below h) hf (by omega)
  rw [hv] at h1
  have ho := valid_okay hv
  have h2 := fun W (h : Below w.heap.size w W) => rspot_any t A cap a W (ht.below h) ho hl
  have h3 := fun W (h : Below w.heap.size w W) => rspot_any t A cap b W (ht.below h) ho hl
  rw [hs1] at h2
  rw [hs2] at h3
  have hlen := valid_len hv
  have bda := spotOk_bd hs1 ho
  have bdb := spotOk_bd hs2 ho
  obtain ⟨I, hI, hlI⟩ := spotOk_yes hs1
  obtain ⟨J, hJ, hlJ⟩ := spotOk_yes hs2
  obtain ⟨st, off⟩ := a
  obtain ⟨st2, off2⟩ := b
  simp only at hI hJ bda bdb h2 h3 hle ⊢
  subst hI hJ
  have h4 := fun W (h : Below w.heap.size w W) => (rdrop_any t A cap I J W (ht.below h) ho (by omega) (by omega) (by omega)).gv
  unfold vT at h4
  have hb := between_bd ho (by omega : I ≤ J) (by omega)
  have e3 : ap0 t ⟨(I : Int), off⟩ ⟨(J : Int), off2⟩ = ⟨(longBetween t I J).lo + off2.lo - off.hi, (longBetween t I J).hi + off2.hi - off.lo⟩ := rfl
  rw [e3]
  generalize longBetween t I J = L at *
  generalize fallBetween t I J = F at *
  (refine ret_enter (n := 76) Try.func36 rfl rfl rfl ?_)
  (repeat' (first | ((with_reducible refine isOps ?_); first | refine u_move rfl rfl rfl rfl rfl ?_ | refine u_assign rfl rfl rfl rfl rfl ?_ | (refine x_load rfl rfl rfl rfl rfl ?_; refine ⟨_, rfl, ?_⟩) | refine u_field rfl rfl rfl rfl rfl ?_ | refine u_pick rfl rfl rfl rfl rfl rfl ?_ | (refine u_cmp rfl rfl rfl rfl rfl rfl rfl (fun h => ?_) (fun h => ?_) <;> (dsimp only [cmpP] at h; (try (exfalso; omega)))) | refine u_gives rfl rfl rfl rfl rfl rfl (fun _ _ q => h1 _ q.below) ?_ | refine u_gives rfl rfl rfl rfl rfl rfl (fun _ _ q => h2 _ q.below) ?_ | refine u_gives rfl rfl rfl rfl rfl rfl (fun _ _ q => h3 _ q.below) ?_ | refine u_gives rfl rfl rfl rfl rfl rfl (fun _ _ q => h4 _ q.below) ?_ | refine u_extract rfl rfl rfl rfl rfl rfl ?_ | refine u_not rfl rfl rfl rfl rfl ?_ | refine u_add rfl rfl rfl rfl rfl rfl (IntWalk.i64_in _ (by omega)) ?_ | refine u_sub rfl rfl rfl rfl rfl rfl (IntWalk.i64_in _ (by omega)) ?_ | (refine x_store rfl rfl rfl rfl rfl ?_; refine And.intro rfl (And.intro (by first | decide | exact Nat.le_of_ble_eq_true rfl | (simp; omega)) ⟨_, rfl, ?_⟩)) | (refine u_alloc rfl rfl rfl rfl (fun b => ?_)) | (refine u_box rfl rfl rfl rfl rfl rfl (fun b => ?_)) | (refine x_build rfl rfl rfl rfl rfl ?_; refine ⟨_, rfl, ?_⟩)) | (with_reducible first | refine u_seq ?_ | refine u_region ?_ | refine u_nil ?_ | refine u_then_n ?_ | refine u_ret ?_ | refine u_skip ?_) | ((with_reducible refine u_cond_f ?_ ?_); (· exact rfl))))
  exact u_done (by (exact ResL.cons (by exact res1c rfl (by exact rfl)) (ResL.cons (by exact Res1.tmp rfl) ResL.nil))) () trivial rfl (fun _ h => h.sub (by (repeat (first | exact Out.nil _ | (refine Out.cons (by (repeat (first | exact Take.here _ _ | apply Take.there))) ?_)))))

set_option maxHeartbeats 2000000 in
theorem rApart_any (t : List St) (A : Option Addr) (cap : Nat) (a b : Spot) (w : World) (ht : SlAt encSt 9 w A t) (hf : FitT t) (hl : t.length ≤ 1000) :
    Gv Try.prog 36 [.agg #[.slice A t.length cap], vSpot a, vSpot b] w (.tuple #[vSp (apT t a b), .int .i64 (errB t a b)]) := by
  have h1 := fun W (h : Below w.heap.size w W) => track_n t A cap W (ht.below h) hf (by omega)
  cases hv : valid t
  · have e1 : apT t a b = ⟨0, 0⟩ := by simp [apT, hv]
    have e2 : errB t a b = 10 := by simp [errB, hv]
    rw [e1, e2]
    rw [hv] at h1
    unfold Gv vSpot
    (refine ret_enter (n := 76) Try.func36 rfl rfl rfl ?_)
    (repeat' (first | ((with_reducible refine isOps ?_); first | refine u_assign rfl rfl rfl rfl rfl ?_ | (refine x_load rfl rfl rfl rfl rfl ?_; refine ⟨_, rfl, ?_⟩) | refine u_gives rfl rfl rfl rfl rfl rfl (fun _ _ q => h1 _ q.below) ?_ | refine u_not rfl rfl rfl rfl rfl ?_ | (refine x_store rfl rfl rfl rfl rfl ?_; refine And.intro rfl (And.intro (by first | decide | exact Nat.le_of_ble_eq_true rfl | (simp; omega)) ⟨_, rfl, ?_⟩)) | (refine u_alloc rfl rfl rfl rfl (fun b => ?_)) | (refine u_box rfl rfl rfl rfl rfl rfl (fun b => ?_)) | (refine x_build rfl rfl rfl rfl rfl ?_; refine ⟨_, rfl, ?_⟩)) | (with_reducible first | refine u_seq ?_ | refine u_region ?_ | refine u_nil ?_ | refine u_then_n ?_ | refine u_ret ?_ | refine u_then_r ?_) | ((with_reducible refine u_cond_t ?_ ?_); (· exact rfl))))
    exact u_done (by (exact ResL.cons (by exact res1c rfl (by exact rfl)) (ResL.cons (by exact Res1.tmp rfl) ResL.nil))) () trivial rfl (fun _ h => h.sub (by (repeat (first | exact Out.nil _ | (refine Out.cons (by (repeat (first | exact Take.here _ _ | apply Take.there))) ?_)))))
  · rw [hv] at h1
    have ho := valid_okay hv
    have h2 := fun W (h : Below w.heap.size w W) => rspot_any t A cap a W (ht.below h) ho hl
    have h3 := fun W (h : Below w.heap.size w W) => rspot_any t A cap b W (ht.below h) ho hl
    have hlen := valid_len hv
    cases hs1 : spotOk t a
    · have e1 : apT t a b = ⟨0, 0⟩ := by simp [apT, hs1]
      have e2 : errB t a b = 12 := by simp [errB, hv, hs1]
      rw [e1, e2]
      rw [hs1] at h2
      unfold Gv
      unfold vSpot at h2 h3 ⊢
      (refine ret_enter (n := 76) Try.func36 rfl rfl rfl ?_)
      (repeat' (first | ((with_reducible refine isOps ?_); first | refine u_move rfl rfl rfl rfl rfl ?_ | refine u_assign rfl rfl rfl rfl rfl ?_ | (refine x_load rfl rfl rfl rfl rfl ?_; refine ⟨_, rfl, ?_⟩) | refine u_pick rfl rfl rfl rfl rfl rfl ?_ | refine u_not_wanted rfl rfl rfl ?_ | refine u_gives rfl rfl rfl rfl rfl rfl (fun _ _ q => h1 _ q.below) ?_ | refine u_gives rfl rfl rfl rfl rfl rfl (fun _ _ q => h2 _ q.below) ?_ | refine u_not rfl rfl rfl rfl rfl ?_ | (refine x_store rfl rfl rfl rfl rfl ?_; refine And.intro rfl (And.intro (by first | decide | exact Nat.le_of_ble_eq_true rfl | (simp; omega)) ⟨_, rfl, ?_⟩)) | (refine u_alloc rfl rfl rfl rfl (fun b => ?_)) | (refine u_box rfl rfl rfl rfl rfl rfl (fun b => ?_)) | (refine x_build rfl rfl rfl rfl rfl ?_; refine ⟨_, rfl, ?_⟩)) | (with_reducible first | refine u_seq ?_ | refine u_region ?_ | refine u_nil ?_ | refine u_then_n ?_ | refine u_ret ?_ | refine u_skip ?_ | refine u_then_r ?_) | ((with_reducible refine u_cond_t ?_ ?_); (· exact rfl)) | ((with_reducible refine u_cond_f ?_ ?_); (· exact rfl))))
      exact u_done (by (exact ResL.cons (by exact res1c rfl (by exact rfl)) (ResL.cons (by exact Res1.tmp rfl) ResL.nil))) () trivial rfl (fun _ h => h.sub (by (repeat (first | exact Out.nil _ | (refine Out.cons (by (repeat (first | exact Take.here _ _ | apply Take.there))) ?_)))))
    cases hs2 : spotOk t b
    · have e1 : apT t a b = ⟨0, 0⟩ := by simp [apT, hs2]
      have e2 : errB t a b = 12 := by simp [errB, hv, hs2]
      rw [e1, e2]
      rw [hs1] at h2
      rw [hs2] at h3
      unfold Gv
      unfold vSpot at h2 h3 ⊢
      (refine ret_enter (n := 76) Try.func36 rfl rfl rfl ?_)
      (repeat' (first | ((with_reducible refine isOps ?_); first | refine u_move rfl rfl rfl rfl rfl ?_ | refine u_assign rfl rfl rfl rfl rfl ?_ | (refine x_load rfl rfl rfl rfl rfl ?_; refine ⟨_, rfl, ?_⟩) | refine u_pick rfl rfl rfl rfl rfl rfl ?_ | refine u_gives rfl rfl rfl rfl rfl rfl (fun _ _ q => h1 _ q.below) ?_ | refine u_gives rfl rfl rfl rfl rfl rfl (fun _ _ q => h2 _ q.below) ?_ | refine u_gives rfl rfl rfl rfl rfl rfl (fun _ _ q => h3 _ q.below) ?_ | refine u_not rfl rfl rfl rfl rfl ?_ | (refine x_store rfl rfl rfl rfl rfl ?_; refine And.intro rfl (And.intro (by first | decide | exact Nat.le_of_ble_eq_true rfl | (simp; omega)) ⟨_, rfl, ?_⟩)) | (refine u_alloc rfl rfl rfl rfl (fun b => ?_)) | (refine u_box rfl rfl rfl rfl rfl rfl (fun b => ?_)) | (refine x_build rfl rfl rfl rfl rfl ?_; refine ⟨_, rfl, ?_⟩)) | (with_reducible first | refine u_seq ?_ | refine u_region ?_ | refine u_nil ?_ | refine u_then_n ?_ | refine u_ret ?_ | refine u_skip ?_ | refine u_then_r ?_) | ((with_reducible refine u_cond_t ?_ ?_); (· exact rfl)) | ((with_reducible refine u_cond_f ?_ ?_); (· exact rfl))))
      exact u_done (by (exact ResL.cons (by exact res1c rfl (by exact rfl)) (ResL.cons (by exact Res1.tmp rfl) ResL.nil))) () trivial rfl (fun _ h => h.sub (by (repeat (first | exact Out.nil _ | (refine Out.cons (by (repeat (first | exact Take.here _ _ | apply Take.there))) ?_)))))
    have e1 : apT t a b = if b.st < a.st then negSp (ap0 t b a) else ap0 t a b := by simp [apT, hv, hs1, hs2]
    have e2 : errB t a b = 0 := by simp [errB, hv, hs1, hs2]
    rw [e1, e2]
    by_cases hij : b.st < a.st
    · rw [if_pos hij]
      have h4 := fun W (h : Below w.heap.size w W) => rApart_le t A cap b a W (ht.below h) hf hl hv hs2 hs1 (by omega)
      rw [hs1] at h2
      rw [hs2] at h3
      have bda := spotOk_bd hs1 ho
      have bdb := spotOk_bd hs2 ho
      obtain ⟨I, hI, hlI⟩ := spotOk_yes hs1
      obtain ⟨J, hJ, hlJ⟩ := spotOk_yes hs2
      have hb := between_bd ho (by omega : J ≤ I) (by omega)
      have b1 : -40000 ≤ (ap0 t b a).lo ∧ (ap0 t b a).hi ≤ 60000000 ∧ (ap0 t b a).lo ≤ (ap0 t b a).hi := by
        have i1 : a.st.toNat = I := by omega
        have i2 : b.st.toNat = J := by omega
        simp only [ap0, i1, i2]
        omega
      generalize ap0 t b a = L at *
      unfold Gv
      unfold vSpot at h2 h3 h4 ⊢
      (refine ret_enter (n := 76) Try.func36 rfl rfl rfl ?_)
      (repeat' (first | ((with_reducible refine isOps ?_); first | refine u_move rfl rfl rfl rfl rfl ?_ | refine u_assign rfl rfl rfl rfl rfl ?_ | (refine x_load rfl rfl rfl rfl rfl ?_; refine ⟨_, rfl, ?_⟩) | refine u_field rfl rfl rfl rfl rfl ?_ | refine u_pick rfl rfl rfl rfl rfl rfl ?_ | (refine u_cmp rfl rfl rfl rfl rfl rfl rfl (fun h => ?_) (fun h => ?_) <;> (dsimp only [cmpP] at h; (try (exfalso; omega)))) | refine u_gives rfl rfl rfl rfl rfl rfl (fun _ _ q => h1 _ q.below) ?_ | refine u_gives rfl rfl rfl rfl rfl rfl (fun _ _ q => h2 _ q.below) ?_ | refine u_gives rfl rfl rfl rfl rfl rfl (fun _ _ q => h3 _ q.below) ?_ | refine u_gives rfl rfl rfl rfl rfl rfl (fun _ _ q => h4 _ q.below) ?_ | refine u_extract rfl rfl rfl rfl rfl rfl ?_ | refine u_not rfl rfl rfl rfl rfl ?_ | (refine x_store rfl rfl rfl rfl rfl ?_; refine And.intro rfl (And.intro (by first | decide | exact Nat.le_of_ble_eq_true rfl | (simp; omega)) ⟨_, rfl, ?_⟩)) | (refine u_alloc rfl rfl rfl rfl (fun b => ?_)) | (refine u_box rfl rfl rfl rfl rfl rfl (fun b => ?_)) | (refine x_build rfl rfl rfl rfl rfl ?_; refine ⟨_, rfl, ?_⟩) | refine u_neg rfl rfl rfl rfl rfl (by rw [Int.zero_sub]; exact IntWalk.i64_in _ (by omega)) ?_) | (with_reducible first | refine u_seq ?_ | refine u_region ?_ | refine u_nil ?_ | refine u_then_n ?_ | refine u_ret ?_ | refine u_skip ?_ | refine u_then_r ?_) | ((with_reducible refine u_cond_t ?_ ?_); (· exact rfl)) | ((with_reducible refine u_cond_f ?_ ?_); (· exact rfl))))
      exact u_done (by (exact ResL.cons (by exact res1c rfl (by exact rfl)) (ResL.cons (by exact Res1.tmp rfl) ResL.nil))) () trivial rfl (fun _ h => h.sub (by (repeat (first | exact Out.nil _ | (refine Out.cons (by (repeat (first | exact Take.here _ _ | apply Take.there))) ?_)))))
    · rw [if_neg hij]
      exact rApart_le t A cap a b w ht hf hl hv hs1 hs2 (by omega)
end Go.Proofs.Ytekjkaoibcfgfaa
