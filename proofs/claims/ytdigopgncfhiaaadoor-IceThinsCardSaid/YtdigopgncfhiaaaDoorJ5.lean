/- Ice: open, asked, what is lost. -/
import Derived.Test.YtdigopgncfhiaaaDoorJ4
import Derived.Test.YtdigopgncfhiaaaDoorU8
namespace Go.Proofs.YtdigopgncfhiaaaDoor
open Go.RowKit
set_option linter.unusedSimpArgs false
set_option linter.unusedVariables false
set_option maxRecDepth 20000

/-- the error of a cover and a plan -/
def errK (c : Cov) (pl : List Sli) : Int := if errI c = 0 then (if planOk c pl then 0 else 21) else errI c
theorem iopen_no (c : Cov) (A : Option Addr) (ca : Nat) (B : Option Addr) (cb : Nat) (C : Option Addr) (cc : Nat) (w : World) (h : CovAt w c A B C) (hs : Small c) (he : errI c ≠ 0) : Gv Tryd.prog 37 [vCov c A ca B cb C cc] w (.tuple #[.pointer none, .int .i64 (errI c)]) := by
  have hc := fun W (hb : Below w.heap.size w W) => icheck_any c A ca B cb C cc W (h.below hb) hs
  unfold vCov cellsCov at hc
  generalize errI c = e at *
  unfold Gv vCov cellsCov
  (refine ret_enter (n := 13) Tryd.func37 rfl rfl rfl ?_)
  (repeat' (first | ((with_reducible refine isOps ?_); first | refine u_move rfl rfl rfl rfl rfl ?_ | refine u_assign rfl rfl rfl rfl rfl ?_ | (refine x_load rfl rfl rfl rfl rfl ?_; refine ⟨_, rfl, ?_⟩) | (refine u_cmp rfl rfl rfl rfl rfl rfl rfl (fun h => ?_) (fun h => ?_) <;> (dsimp only [cmpP] at h; (try (exfalso; omega)))) | refine u_gives rfl rfl rfl rfl rfl rfl (fun _ _ q => hc _ q.below) ?_ | (refine u_box rfl rfl rfl rfl rfl rfl (fun b => ?_)) | (refine x_build rfl rfl rfl rfl rfl ?_; refine ⟨_, rfl, ?_⟩)) | (with_reducible first | refine u_seq ?_ | refine u_region ?_ | refine u_nil ?_ | refine u_then_n ?_ | refine u_ret ?_ | refine u_skip ?_ | refine u_then_r ?_ | refine u_end ?_) | ((with_reducible refine u_cond_t ?_ ?_); (· exact rfl)) | ((with_reducible refine u_cond_f ?_ ?_); (· exact rfl))))
  all_goals exact u_done (by (exact ResL.cons (by exact Res1.tmp rfl) (ResL.cons (by exact Res1.tmp rfl) ResL.nil))) () trivial rfl (fun _ h => h.sub (by (repeat (first | exact Out.nil _ | (refine Out.cons (by (repeat (first | exact Take.here _ _ | apply Take.there))) ?_)))))
theorem iopen_ok (c : Cov) (A : Option Addr) (ca : Nat) (B : Option Addr) (cb : Nat) (C : Option Addr) (cc : Nat) (w : World) (h : CovAt w c A B C) (hs : Small c) (he : errI c = 0) : Ret Tryd.prog 37 [vCov c A ca B cb C cc] w (fun g : Nat => .tuple #[.pointer (some ⟨g, 0, none⟩), .int .i64 0]) (fun g => [.blk g (cellsCov c A ca B cb C cc)]) (fun _ => True) := by
  have hc := fun W (hb : Below w.heap.size w W) => icheck_any c A ca B cb C cc W (h.below hb) hs
  unfold vCov cellsCov at hc
  rw [he] at hc
  unfold vCov cellsCov
  (refine ret_enter (n := 13) Tryd.func37 rfl rfl rfl ?_)
  (repeat' (first | ((with_reducible refine isOps ?_); first | refine u_move rfl rfl rfl rfl rfl ?_ | refine u_assign rfl rfl rfl rfl rfl ?_ | (refine x_load rfl rfl rfl rfl rfl ?_; refine ⟨_, rfl, ?_⟩) | (refine u_cmp rfl rfl rfl rfl rfl rfl rfl (fun h => ?_) (fun h => ?_) <;> (dsimp only [cmpP] at h; (try (exfalso; omega)))) | refine u_gives rfl rfl rfl rfl rfl rfl (fun _ _ q => hc _ q.below) ?_ | (refine u_box rfl rfl rfl rfl rfl rfl (fun b => ?_)) | (refine x_build rfl rfl rfl rfl rfl ?_; refine ⟨_, rfl, ?_⟩)) | (with_reducible first | refine u_seq ?_ | refine u_region ?_ | refine u_nil ?_ | refine u_then_n ?_ | refine u_ret ?_ | refine u_skip ?_ | refine u_then_r ?_ | refine u_end ?_) | ((with_reducible refine u_cond_t ?_ ?_); (· exact rfl)) | ((with_reducible refine u_cond_f ?_ ?_); (· exact rfl))))
  all_goals exact u_done (by (exact ResL.cons (by exact Res1.tmp rfl) (ResL.cons (by exact Res1.tmp rfl) ResL.nil))) _ trivial rfl (fun _ h => h.sub (by (repeat (first | exact Out.nil _ | (refine Out.cons (by (repeat (first | exact Take.here _ _ | apply Take.there))) ?_)))))
theorem iasked_no (c : Cov) (A : Option Addr) (ca : Nat) (B : Option Addr) (cb : Nat) (C : Option Addr) (cc : Nat) (pl : List Sli) (P : Option Addr) (cp : Nat) (w : World) (h : CovAt w c A B C) (hs : Small c) (hp : PlanAt w P pl) (hl : pl.length ≤ 12) (hrl : ∀ s ∈ pl, s.xs.length ≤ 20) (he : errK c pl ≠ 0) :
    Gv Tryd.prog 67 [vCov c A ca B cb C cc, .slice P pl.length cp] w (.tuple #[.pointer none, .int .i64 (errK c pl)]) := by
  have h1 := fun W (hb : Below w.heap.size w W) => iopen_no c A ca B cb C cc W (h.below hb) hs
  have h2 := fun W (hb : Below w.heap.size w W) => iopen_ok c A ca B cb C cc W (h.below hb) hs
  have h3 := fun W (hb : Below w.heap.size w W) g (hr : InC W g 0 (cellsCov c A ca B cb C cc)) => iplanned_any c A ca B cb C cc g pl P cp W hr (h.below hb) (hp.below hb) hs hl hrl
  unfold vCov at h1 h2
  unfold Gv vCov
  unfold errK at he ⊢
  by_cases h0 : errI c = 0
  · rw [if_pos h0] at he ⊢
    have hpl : planOk c pl = false := by
      cases hq : planOk c pl with
      | false => rfl
      | true => rw [hq] at he; exact absurd rfl he
    rw [hpl] at h3 ⊢
    unfold cellsCov at h2 h3 ⊢
    (refine ret_enter (n := 21) Tryd.func67 rfl rfl rfl ?_)
    (repeat' (first | ((with_reducible refine isOps ?_); first | refine u_move rfl rfl rfl rfl rfl ?_ | refine u_assign rfl rfl rfl rfl rfl ?_ | (refine x_load rfl rfl rfl rfl rfl ?_; refine ⟨_, rfl, ?_⟩) | (refine u_cmp rfl rfl rfl rfl rfl rfl rfl (fun h => ?_) (fun h => ?_) <;> (dsimp only [cmpP] at h; (try (exfalso; omega)))) | (refine u_call rfl rfl rfl rfl rfl rfl (fun _ _ q => h2 _ q.below h0) ?_; rintro g -; dsimp only [List.cons_append, List.nil_append]) | refine u_gives rfl rfl rfl rfl rfl rfl (fun _ _ q => h3 _ q.below _ (cells_by q.own (Below.refl _ _) rfl)) ?_ | refine u_extract rfl rfl rfl rfl rfl rfl ?_ | refine u_not rfl rfl rfl rfl rfl ?_ | (refine u_box rfl rfl rfl rfl rfl rfl (fun b => ?_))) | (with_reducible first | refine u_seq ?_ | refine u_region ?_ | refine u_nil ?_ | refine u_then_n ?_ | refine u_ret ?_ | refine u_skip ?_ | refine u_then_r ?_ | refine u_end ?_) | ((with_reducible refine u_cond_t ?_ ?_); (· exact rfl)) | ((with_reducible refine u_cond_f ?_ ?_); (· exact rfl))))
    all_goals exact u_done (by (exact ResL.cons (by exact Res1.tmp rfl) (ResL.cons (by exact Res1.tmp rfl) ResL.nil))) () trivial rfl (fun _ h => h.sub (by (repeat (first | exact Out.nil _ | (refine Out.cons (by (repeat (first | exact Take.here _ _ | apply Take.there))) ?_)))))
  · rw [if_neg h0] at he ⊢
    unfold cellsCov at h1 ⊢
    generalize errI c = e at *
    (refine ret_enter (n := 21) Tryd.func67 rfl rfl rfl ?_)
    (repeat' (first | ((with_reducible refine isOps ?_); first | refine u_move rfl rfl rfl rfl rfl ?_ | refine u_assign rfl rfl rfl rfl rfl ?_ | (refine x_load rfl rfl rfl rfl rfl ?_; refine ⟨_, rfl, ?_⟩) | (refine u_cmp rfl rfl rfl rfl rfl rfl rfl (fun h => ?_) (fun h => ?_) <;> (dsimp only [cmpP] at h; (try (exfalso; omega)))) | refine u_gives rfl rfl rfl rfl rfl rfl (fun _ _ q => h1 _ q.below h0) ?_ | refine u_extract rfl rfl rfl rfl rfl rfl ?_ | refine u_not rfl rfl rfl rfl rfl ?_ | (refine u_box rfl rfl rfl rfl rfl rfl (fun b => ?_))) | (with_reducible first | refine u_seq ?_ | refine u_region ?_ | refine u_nil ?_ | refine u_then_n ?_ | refine u_ret ?_ | refine u_skip ?_ | refine u_then_r ?_ | refine u_end ?_) | ((with_reducible refine u_cond_t ?_ ?_); (· exact rfl)) | ((with_reducible refine u_cond_f ?_ ?_); (· exact rfl))))
    all_goals exact u_done (by (exact ResL.cons (by exact Res1.tmp rfl) (ResL.cons (by exact Res1.tmp rfl) ResL.nil))) () trivial rfl (fun _ h => h.sub (by (repeat (first | exact Out.nil _ | (refine Out.cons (by (repeat (first | exact Take.here _ _ | apply Take.there))) ?_)))))
theorem iasked_ok (c : Cov) (A : Option Addr) (ca : Nat) (B : Option Addr) (cb : Nat) (C : Option Addr) (cc : Nat) (pl : List Sli) (P : Option Addr) (cp : Nat) (w : World) (h : CovAt w c A B C) (hs : Small c) (hp : PlanAt w P pl) (hl : pl.length ≤ 12) (hrl : ∀ s ∈ pl, s.xs.length ≤ 20) (he : errI c = 0) (hpl : planOk c pl = true) :
    Ret Tryd.prog 67 [vCov c A ca B cb C cc, .slice P pl.length cp] w (fun g : Nat => .tuple #[.pointer (some ⟨g, 0, none⟩), .int .i64 0]) (fun g => [.blk g (cellsCov c A ca B cb C cc)]) (fun _ => True) := by
  have h2 := fun W (hb : Below w.heap.size w W) => iopen_ok c A ca B cb C cc W (h.below hb) hs he
  have h3 := fun W (hb : Below w.heap.size w W) g (hr : InC W g 0 (cellsCov c A ca B cb C cc)) => iplanned_any c A ca B cb C cc g pl P cp W hr (h.below hb) (hp.below hb) hs hl hrl
  unfold vCov at h2 ⊢
  rw [hpl] at h3
  unfold cellsCov at h2 h3 ⊢
  (refine ret_enter (n := 21) Tryd.func67 rfl rfl rfl ?_)
  (repeat' (first | ((with_reducible refine isOps ?_); first | refine u_move rfl rfl rfl rfl rfl ?_ | refine u_assign rfl rfl rfl rfl rfl ?_ | (refine x_load rfl rfl rfl rfl rfl ?_; refine ⟨_, rfl, ?_⟩) | (refine u_cmp rfl rfl rfl rfl rfl rfl rfl (fun h => ?_) (fun h => ?_) <;> (dsimp only [cmpP] at h; (try (exfalso; omega)))) | (refine u_call rfl rfl rfl rfl rfl rfl (fun _ _ q => h2 _ q.below) ?_; rintro g -; dsimp only [List.cons_append, List.nil_append]) | refine u_gives rfl rfl rfl rfl rfl rfl (fun _ _ q => h3 _ q.below _ (cells_by q.own (Below.refl _ _) rfl)) ?_ | refine u_extract rfl rfl rfl rfl rfl rfl ?_ | refine u_not rfl rfl rfl rfl rfl ?_ | (refine u_box rfl rfl rfl rfl rfl rfl (fun b => ?_))) | (with_reducible first | refine u_seq ?_ | refine u_region ?_ | refine u_nil ?_ | refine u_then_n ?_ | refine u_ret ?_ | refine u_skip ?_ | refine u_then_r ?_ | refine u_end ?_) | ((with_reducible refine u_cond_t ?_ ?_); (· exact rfl)) | ((with_reducible refine u_cond_f ?_ ?_); (· exact rfl))))
  all_goals exact u_done (by (exact ResL.cons (by exact Res1.tmp rfl) (ResL.cons (by exact Res1.tmp rfl) ResL.nil))) _ trivial rfl (fun _ h => h.sub (by (repeat (first | exact Out.nil _ | (refine Out.cons (by (repeat (first | exact Take.here _ _ | apply Take.there))) ?_)))))

/-! ### what is lost -/
def lossC (c : Cov) (z : Bed) (u : Hour) : Sp := ⟨z.sun * u.melt.lo + u.runs * c.wear.lo, z.sun * u.melt.hi + u.runs * c.wear.hi⟩
/-- products in use stay small -/
structure Fine (c : Cov) : Prop where
  bed : ∀ z ∈ c.beds, bedOk z = true
  hour : ∀ u ∈ c.hours, hourOk u = true
  wear : knownB c.wear 0 20 = true
  layer : knownB c.layer 1 100 = true
  rate : inB 0 100 c.rate = true
  limit : inB 0 2000 c.limit = true
  base : inB 0 c.limit c.base = true
  beds : c.beds.length = c.t.length
  hours : inB 1 8 c.hours.length = true
theorem fine_of {c : Cov} (h : errI c = 0) : Fine c := by
  unfold errI at h
  by_cases hv : valid c.t = true
  · rw [if_pos hv] at h
    by_cases hi : iceOk c = true
    · obtain ⟨i1, i2, i3, i4, i5, i6, i7, i8, i9⟩ := iceOk_iff.1 hi
      exact ⟨fun z hz => List.all_eq_true.1 i3 z hz, fun z hz => List.all_eq_true.1 i4 z hz, i5, i6, i7, i8, i9, i1, i2⟩
    · rw [if_neg hi] at h; cases h
  · rw [if_neg hv] at h; cases h
theorem mul_in {a b A B : Int} (h1 : 0 ≤ a) (h2 : a ≤ A) (h3 : 0 ≤ b) (h4 : b ≤ B) : 0 ≤ a * b ∧ a * b ≤ A * B :=
  ⟨Int.mul_nonneg h1 h3, Int.le_trans (Int.mul_le_mul_of_nonneg_right h2 h3) (Int.mul_le_mul_of_nonneg_left h4 (Int.le_trans h1 h2))⟩
/-- the bounds that a walk needs -/
theorem loss_in {c : Cov} {z : Bed} {u : Hour} (hf : Fine c) (hz : z ∈ c.beds) (hu : u ∈ c.hours) :
    (0 ≤ z.sun * u.melt.lo ∧ z.sun * u.melt.lo ≤ 450) ∧ (0 ≤ z.sun * u.melt.hi ∧ z.sun * u.melt.hi ≤ 450) ∧ (0 ≤ u.runs * c.wear.lo ∧ u.runs * c.wear.lo ≤ 1200) ∧ (0 ≤ u.runs * c.wear.hi ∧ u.runs * c.wear.hi ≤ 1200) := by
  have h1 := hf.bed z hz; have h2 := hf.hour u hu; have h3 := hf.wear
  simp only [bedOk, hourOk, Bool.and_eq_true, knownB_iff, inB_iff] at h1 h2 h3
  exact ⟨mul_in (A := 9) (B := 50) (by omega) (by omega) (by omega) (by omega), mul_in (A := 9) (B := 50) (by omega) (by omega) (by omega) (by omega), mul_in (A := 60) (B := 20) (by omega) (by omega) (by omega) (by omega), mul_in (A := 60) (B := 20) (by omega) (by omega) (by omega) (by omega)⟩
theorem lossC_in {c : Cov} {z : Bed} {u : Hour} (hf : Fine c) (hz : z ∈ c.beds) (hu : u ∈ c.hours) : 0 ≤ (lossC c z u).lo ∧ (lossC c z u).lo ≤ 1650 ∧ 0 ≤ (lossC c z u).hi ∧ (lossC c z u).hi ≤ 1650 := by
  have := loss_in hf hz hu
  simp only [lossC]; omega

set_option maxHeartbeats 2000000 in
theorem iloss_any (c : Cov) (A : Option Addr) (ca : Nat) (B : Option Addr) (cb : Nat) (C : Option Addr) (cc g i j : Nat) (z : Bed) (u : Hour) (w : World) (hr : InC w g 0 (cellsCov c A ca B cb C cc)) (h : CovAt w c A B C) (hs : Small c) (hf : Fine c) (hz : c.beds[i]? = some z) (hu : c.hours[j]? = some u) :
    Gv Tryd.prog 64 [.pointer (some ⟨g, 0, none⟩), .int .i64 (i : Int), .int .i64 (j : Int)] w (vSp (lossC c z u)) := by
  have h4 := hs.b; have h5 := hs.h
  have hb := h.b; have hh := h.h
  have hzm := List.mem_of_getElem? hz
  have hum := List.mem_of_getElem? hu
  obtain ⟨⟨m1, m2⟩, ⟨m3, m4⟩, ⟨m5, m6⟩, m7, m8⟩ := loss_in hf hzm hum
  have hi := (List.getElem?_eq_some_iff.1 hz).1
  have hj := (List.getElem?_eq_some_iff.1 hu).1
  obtain ⟨bb, o, rfl, hblt, hc⟩ := hb.at_ hi
  have : InS w bb o encBed 3 c.beds := ⟨hb⟩
  have : GetI c.beds i z := ⟨hz⟩
  obtain ⟨bc, oc, rfl, hblt2, hc2⟩ := hh.at_ hj
  have : InS w bc oc encHour 5 c.hours := ⟨hh⟩
  have : GetI c.hours j u := ⟨hu⟩
  unfold cellsCov at hr
  unfold Gv lossC vSp
  (refine ret_enter (n := 57) Tryd.func64 rfl rfl rfl ?_)
  (repeat' (first | ((with_reducible refine isOps ?_); first | refine u_move rfl rfl rfl rfl rfl ?_ | refine u_assign rfl rfl rfl rfl rfl ?_ | (refine x_load rfl rfl rfl rfl rfl ?_; refine ⟨_, rfl, ?_⟩) | refine u_field rfl rfl rfl rfl rfl ?_ | refine u_add1 rfl rfl rfl rfl rfl rfl (by omega) ?_ | refine u_add rfl rfl rfl rfl rfl rfl (IntWalk.i64_in _ (by omega)) ?_ | refine u_mul rfl rfl rfl rfl rfl rfl (IntWalk.i64_in _ (by omega)) ?_ | refine u_index rfl rfl rfl rfl rfl rfl rfl (by omega) ?_ | refine u_indexA rfl rfl rfl rfl rfl rfl rfl (by first | decide | omega) ?_ | (refine x_store rfl rfl rfl rfl rfl ?_; refine And.intro rfl (And.intro (by first | decide | exact Nat.le_of_ble_eq_true rfl | (simp; omega)) ⟨_, rfl, ?_⟩)) | (refine u_alloc rfl rfl rfl rfl (fun b => ?_)) | (refine x_build rfl rfl rfl rfl rfl ?_; refine ⟨_, rfl, ?_⟩) | refine u_nilCheck rfl rfl rfl rfl rfl ?_) | (with_reducible first | refine u_seq ?_ | refine u_region ?_ | refine u_nil ?_ | refine u_then_n ?_ | refine u_ret ?_ | refine u_skip ?_ | refine u_then_r ?_ | refine u_end ?_)))
  (refine u_chain (by kernel_rfl) [[], [true], [true, true], [true, true, true], [true, true, true, true], [false, false, false, false, false], [true, true, true, true, true, true], [true, true, true, true, true, true, true], [true, true, true, true, true, true, true, true], [false, false, false, false, false, false, false, false, false], [true, false, false, false, false, false, false, false, false, false], [true, true, false, false, false, false, false, false, false, false, false], [true, true, true, false, false, false, false, false, false, false, false, false], [true, true, true, true, false, false, false, false, false, false, false, false, false], [false, false, false, false, false, false, false, false, false, false, false, false, false, false], [true, true, true, true, true, true, false, false, false, false, false, false, false, false, false], [true, true, true, true, true, true, true, false, false, false, false, false, false, false, false, false], [false, false, false, false, false, false, false, false, false, false, false, false, false, false, false, false, false], [true, false, false, false, false, false, false, false, false, true, true, true, true, true, true, true, true, true], [true, true, true, true, true, true, true, true, true, true, true, true, true, true, true, true, true, true, true]] (by kernel_rfl) (by kernel_rfl) (by kernel_rfl) ?_)
  (repeat' (first | (((with_reducible refine c_go ?_ ?_); (· exact rfl); refine ⟨_, fun G => (by (try simp only [fltT, entsT, List.nil_append, List.cons_append]); rfl), ?_⟩); first | refine c_val _ (fun _ => e_move rfl rfl) (fun _ => rfl) rfl (by first | exact fun _ _ _ => rfl | (intro G G' h; simp (decide := true) only [h])) ?_ | refine c_val _ (fun _ => e_load' rfl rfl (by exact rfl)) (fun _ => rfl) rfl (by first | exact fun _ _ _ => rfl | (intro G G' h; simp (decide := true) only [h])) ?_ | (refine c_isField rfl ?_; refine c_val _ (fun _ => e_field rfl rfl) (fun _ => rfl) rfl (by first | exact fun _ _ _ => rfl | (intro G G' h; simp (decide := true) only [h])) ?_) | refine c_val _ (fun _ => e_assign rfl rfl) (fun _ => rfl) rfl (by first | exact fun _ _ _ => rfl | (intro G G' h; simp (decide := true) only [h])) ?_ | refine c_val _ (fun _ => e_index (I := i) rfl rfl rfl rfl (by omega)) (fun _ => rfl) rfl (by exact fun _ _ _ => rfl) ?_ | refine c_val _ (fun _ => e_index (I := j) rfl rfl rfl rfl (by omega)) (fun _ => rfl) rfl (by exact fun _ _ _ => rfl) ?_ | refine c_val _ (fun _ => e_index rfl rfl rfl rfl (by omega)) (fun _ => rfl) rfl (by first | exact fun _ _ _ => rfl | (intro G G' h; simp (decide := true) only [h])) ?_ | refine c_val _ (fun _ => e_indexA rfl rfl rfl rfl (by first | decide | omega)) (fun _ => rfl) rfl (by first | exact fun _ _ _ => rfl | (intro G G' h; simp (decide := true) only [h])) ?_ | refine c_val _ (fun _ => e_nilCheck rfl rfl) (fun _ => rfl) rfl (by first | exact fun _ _ _ => rfl | (intro G G' h; simp (decide := true) only [h])) ?_ | refine c_alloc rfl (fun _ => rfl) rfl ?_) | ((with_reducible refine c_tail ?_ ?_); (· exact rfl)) | (with_reducible refine c_nil ?_)))
  (intro G; simp only [regsT, entsT, Pend.at_none, List.nil_append, List.cons_append])
  (repeat' (first | ((with_reducible refine isOps ?_); first | refine u_move rfl rfl rfl rfl rfl ?_ | refine u_assign rfl rfl rfl rfl rfl ?_ | (refine x_load rfl rfl rfl rfl rfl ?_; refine ⟨_, rfl, ?_⟩) | refine u_field rfl rfl rfl rfl rfl ?_ | refine u_add1 rfl rfl rfl rfl rfl rfl (by omega) ?_ | refine u_add rfl rfl rfl rfl rfl rfl (IntWalk.i64_in _ (by omega)) ?_ | refine u_mul rfl rfl rfl rfl rfl rfl (IntWalk.i64_in _ (by omega)) ?_ | refine u_index rfl rfl rfl rfl rfl rfl rfl (by omega) ?_ | refine u_indexA rfl rfl rfl rfl rfl rfl rfl (by first | decide | omega) ?_ | (refine x_store rfl rfl rfl rfl rfl ?_; refine And.intro rfl (And.intro (by first | decide | exact Nat.le_of_ble_eq_true rfl | (simp; omega)) ⟨_, rfl, ?_⟩)) | (refine u_alloc rfl rfl rfl rfl (fun b => ?_)) | (refine x_build rfl rfl rfl rfl rfl ?_; refine ⟨_, rfl, ?_⟩) | refine u_nilCheck rfl rfl rfl rfl rfl ?_) | (with_reducible first | refine u_seq ?_ | refine u_region ?_ | refine u_nil ?_ | refine u_then_n ?_ | refine u_ret ?_ | refine u_skip ?_ | refine u_then_r ?_ | refine u_end ?_)))
  (refine u_chain (by kernel_rfl) [[], [false], [true, false], [true, true, false], [true, true, true, true], [false, false, false, false, false], [true, false, false, false, false, false], [false, false, false, false, false, false, false], [true, false, false, false, false, false, false, false], [true, true, false, false, false, false, false, false, false], [true, true, true, false, false, false, false, false, false, false], [true, true, true, true, false, false, false, false, false, false, false], [true, true, true, true, true, false, false, false, false, false, false, false], [true, true, true, true, true, true, true, true, false, false, false, false, false], [true, true, true, true, true, true, true, true, true, true, true, true, true, true], [false, false, false, false, false, false, false, false, false, false, false, false, false, false, false], [false, false, false, false, false, false, false, false, false, false, false, false, false, false, false, false], [true, false, false, false, false, false, false, false, false, false, false, false, false, false, false, false, false], [true, true, false, false, false, false, false, false, false, false, false, false, false, false, false, false, false, false], [true, true, true, true, false, false, false, false, false, false, false, false, false, false, false, false, false, false, false], [false, false, false, false, false, false, false, false, false, false, false, false, false, false, false, false, false, false, false, false], [true, false, false, false, false, false, false, false, false, false, false, false, false, false, false, false, false, false, false, false, false], [false, false, false, false, false, false, false, false, false, false, false, false, false, false, false, false, false, false, false, false, false, false], [true, false, false, false, false, false, false, false, false, false, false, false, false, false, false, false, false, false, false, false, false, false, false], [true, true, false, false, false, false, false, false, false, false, false, false, false, false, false, false, false, false, false, false, false, false, false, false], [true, true, true, false, false, false, false, false, false, false, false, false, false, false, false, false, false, false, false, false, false, false, false, false, false], [true, true, true, true, false, false, false, false, false, false, false, false, false, false, false, false, false, false, false, false, false, false, false, false, false, false], [true, true, true, true, true, false, false, false, false, false, false, false, false, false, false, false, false, false, false, false, false, false, false, false, false, false, false], [true, true, true, true, true, true, true, true, false, false, false, false, false, false, false, false, false, false, false, false, false, false, false, false, false, false, false, false], [true, true, true, true, true, true, true, true, true, true, true, true, true, true, false, false, false, false, false, false, false, false, false, false, false, false, false, false, false], [true, true, true, true, true, true, true, true, true, true, true, true, true, true, true, true, true, true, true, true, true, true, true, true, true, true, true, true, true, true], [true, true, true, true, true, true, true, true, true, true, true, true, true, true, true, true, true, true, true, true, true, true, true, true, true, true, true, true, true, true, true]] (by kernel_rfl) (by kernel_rfl) (by kernel_rfl) ?_)
  (repeat' (first | (((with_reducible refine c_go ?_ ?_); (· exact rfl); refine ⟨_, fun G => (by (try simp only [fltT, entsT, List.nil_append, List.cons_append]); rfl), ?_⟩); first | refine c_val _ (fun _ => e_move rfl rfl) (fun _ => rfl) rfl (by first | exact fun _ _ _ => rfl | (intro G G' h; simp (decide := true) only [h])) ?_ | refine c_val _ (fun _ => e_load' rfl rfl (by exact rfl)) (fun _ => rfl) rfl (by first | exact fun _ _ _ => rfl | (intro G G' h; simp (decide := true) only [h])) ?_ | (refine c_isField rfl ?_; refine c_val _ (fun _ => e_field rfl rfl) (fun _ => rfl) rfl (by first | exact fun _ _ _ => rfl | (intro G G' h; simp (decide := true) only [h])) ?_) | refine c_val _ (fun _ => e_add1 rfl rfl rfl (by omega)) (fun _ => rfl) rfl (by first | exact fun _ _ _ => rfl | (intro G G' h; simp (decide := true) only [h])) ?_ | refine c_val _ (fun _ => e_add rfl rfl rfl (IntWalk.i64_in _ (by omega))) (fun _ => rfl) rfl (by first | exact fun _ _ _ => rfl | (intro G G' h; simp (decide := true) only [h])) ?_ | refine c_val _ (fun _ => e_mul rfl rfl rfl (IntWalk.i64_in _ (by omega))) (fun _ => rfl) rfl (by first | exact fun _ _ _ => rfl | (intro G G' h; simp (decide := true) only [h])) ?_ | refine c_val _ (fun _ => e_nilCheck rfl rfl) (fun _ => rfl) rfl (by first | exact fun _ _ _ => rfl | (intro G G' h; simp (decide := true) only [h])) ?_ | refine c_val _ (fun _ => e_build' rfl rfl (by exact rfl)) (fun _ => rfl) rfl (by first | exact fun _ _ _ => rfl | (intro G G' h; simp (decide := true) only [h])) ?_) | ((with_reducible refine c_tail ?_ ?_); (· exact rfl)) | (with_reducible refine c_nil ?_)))
  (intro G; simp only [regsT, entsT, Pend.at_none, List.nil_append, List.cons_append])
  (repeat' (first | ((with_reducible refine isOps ?_); first | refine u_move rfl rfl rfl rfl rfl ?_ | refine u_assign rfl rfl rfl rfl rfl ?_ | (refine x_load rfl rfl rfl rfl rfl ?_; refine ⟨_, rfl, ?_⟩) | refine u_field rfl rfl rfl rfl rfl ?_ | refine u_add1 rfl rfl rfl rfl rfl rfl (by omega) ?_ | refine u_add rfl rfl rfl rfl rfl rfl (IntWalk.i64_in _ (by omega)) ?_ | refine u_mul rfl rfl rfl rfl rfl rfl (IntWalk.i64_in _ (by omega)) ?_ | refine u_index rfl rfl rfl rfl rfl rfl rfl (by omega) ?_ | refine u_indexA rfl rfl rfl rfl rfl rfl rfl (by first | decide | omega) ?_ | (refine x_store rfl rfl rfl rfl rfl ?_; refine And.intro rfl (And.intro (by first | decide | exact Nat.le_of_ble_eq_true rfl | (simp; omega)) ⟨_, rfl, ?_⟩)) | (refine u_alloc rfl rfl rfl rfl (fun b => ?_)) | (refine x_build rfl rfl rfl rfl rfl ?_; refine ⟨_, rfl, ?_⟩) | refine u_nilCheck rfl rfl rfl rfl rfl ?_) | (with_reducible first | refine u_seq ?_ | refine u_region ?_ | refine u_nil ?_ | refine u_then_n ?_ | refine u_ret ?_ | refine u_skip ?_ | refine u_then_r ?_ | refine u_end ?_)))
  exact u_done (by (exact ResL.cons (by exact res1c rfl (by exact rfl)) ResL.nil)) () trivial rfl (fun _ h => h.sub (by (repeat (first | exact Out.nil _ | (refine Out.cons (by (repeat (first | exact Take.here _ _ | apply Take.there))) ?_)))))
end Go.Proofs.YtdigopgncfhiaaaDoor
namespace Go.Proofs.YtdigopgncfhiaaaDoor.Two
set_option linter.unusedSimpArgs false
set_option linter.unusedVariables false
open Go.RowKit
set_option maxRecDepth 20000
set_option maxHeartbeats 2000000 in
theorem rloss2_any (c : Cov) (A : Option Addr) (ca : Nat) (B : Option Addr) (cb : Nat) (C : Option Addr) (cc i j : Nat) (z : Bed) (u : Hour) (w : World) (h : CovAt w c A B C) (hs : Small c) (hf : Fine c) (hz : c.beds[i]? = some z) (hu : c.hours[j]? = some u) :
    Gv Tryd.prog 66 [vCov c A ca B cb C cc, .int .i64 (i : Int), .int .i64 (j : Int)] w (vSp (lossC c z u)) := by
  have h4 := hs.b; have h5 := hs.h
  have hb := h.b; have hh := h.h
  have hzm := List.mem_of_getElem? hz
  have hum := List.mem_of_getElem? hu
  obtain ⟨⟨m1, m2⟩, ⟨m3, m4⟩, ⟨m5, m6⟩, m7, m8⟩ := loss_in hf hzm hum
  have hi := (List.getElem?_eq_some_iff.1 hz).1
  have hj := (List.getElem?_eq_some_iff.1 hu).1
  obtain ⟨bb, o, rfl, hblt, hc⟩ := hb.at_ hi
  have : InS w bb o encBed 3 c.beds := ⟨hb⟩
  have : GetI c.beds i z := ⟨hz⟩
  obtain ⟨bc, oc, rfl, hblt2, hc2⟩ := hh.at_ hj
  have : InS w bc oc encHour 5 c.hours := ⟨hh⟩
  have : GetI c.hours j u := ⟨hu⟩
  unfold Gv vCov cellsCov lossC vSp
  (refine ret_enter (n := 46) Tryd.func66 rfl rfl rfl ?_)
  (repeat' (first | ((with_reducible refine isOps ?_); first | refine u_move rfl rfl rfl rfl rfl ?_ | (refine x_load rfl rfl rfl rfl rfl ?_; refine ⟨_, rfl, ?_⟩) | refine u_field rfl rfl rfl rfl rfl ?_ | refine u_add1 rfl rfl rfl rfl rfl rfl (by omega) ?_ | refine u_add rfl rfl rfl rfl rfl rfl (IntWalk.i64_in _ (by omega)) ?_ | refine u_mul rfl rfl rfl rfl rfl rfl (IntWalk.i64_in _ (by omega)) ?_ | refine u_index rfl rfl rfl rfl rfl rfl rfl (by omega) ?_ | refine u_indexA rfl rfl rfl rfl rfl rfl rfl (by first | decide | omega) ?_ | (refine x_store rfl rfl rfl rfl rfl ?_; refine And.intro rfl (And.intro (by first | decide | exact Nat.le_of_ble_eq_true rfl | (simp; omega)) ⟨_, rfl, ?_⟩)) | (refine u_alloc rfl rfl rfl rfl (fun b => ?_)) | (refine u_box rfl rfl rfl rfl rfl rfl (fun b => ?_)) | (refine x_build rfl rfl rfl rfl rfl ?_; refine ⟨_, rfl, ?_⟩)) | (with_reducible first | refine u_seq ?_ | refine u_region ?_ | refine u_nil ?_ | refine u_then_n ?_ | refine u_ret ?_ | refine u_skip ?_ | refine u_then_r ?_ | refine u_end ?_)))
  (refine u_chain [(10, 12)] [] [] rfl (by decide) (fun _ h => h) (by kernel_rfl) [[], [true], [false, false], [true, true, true], [true, true, true, true], [false, false, false, false, false], [true, false, false, false, false, false], [false, false, false, false, false, false, false], [true, true, true, false, false, false, false, false], [true, true, true, true, false, false, false, false, false], [false, false, false, false, false, false, false, false, false, false], [false, false, false, false, false, false, false, false, false, false, false], [true, true, false, false, false, false, false, true, true, true, true, true], [true, true, true, true, true, true, true, true, true, true, true, true, true]] (by kernel_rfl) (by kernel_rfl) (by kernel_rfl) (by kernel_rfl) (by kernel_rfl) ?_)
  (repeat' (first | (((with_reducible refine c_go ?_ ?_); (· exact rfl); refine ⟨_, fun G => (by (try simp (decide := true) only [vis, see, fltT, entsT, Nat.reduceAdd, Nat.reduceSub, if_true, if_false, List.set_cons_zero, List.set_cons_succ, List.set_nil, List.nil_append, List.cons_append]); rfl), ?_⟩); first | refine c_val _ (fun _ => e_move rfl rfl) (fun _ => rfl) rfl (by first | exact fun _ _ _ => rfl | (intro G G' h; simp (decide := true) only [h])) ?_ | refine c_val _ (fun _ => e_load' rfl rfl (by exact rfl)) (fun _ => rfl) rfl (by first | exact fun _ _ _ => rfl | (intro G G' h; simp (decide := true) only [h])) ?_ | (refine c_isField rfl ?_; refine c_val _ (fun _ => e_field rfl rfl) (fun _ => rfl) rfl (by first | exact fun _ _ _ => rfl | (intro G G' h; simp (decide := true) only [h])) ?_) | refine c_val _ (fun _ => e_index (I := i) rfl rfl rfl rfl (by omega)) (fun _ => rfl) rfl (by exact fun _ _ _ => rfl) ?_ | refine c_val _ (fun _ => e_index (I := j) rfl rfl rfl rfl (by omega)) (fun _ => rfl) rfl (by exact fun _ _ _ => rfl) ?_ | refine c_val _ (fun _ => e_index rfl rfl rfl rfl (by omega)) (fun _ => rfl) rfl (by first | exact fun _ _ _ => rfl | (intro G G' h; simp (decide := true) only [h])) ?_ | refine c_val _ (fun _ => e_indexA rfl rfl rfl rfl (by first | decide | omega)) (fun _ => rfl) rfl (by first | exact fun _ _ _ => rfl | (intro G G' h; simp (decide := true) only [h])) ?_ | refine c_alloc rfl (fun _ => rfl) rfl ?_) | (refine c_storeT (gx := fun G => (G 10).g) (cs := fun _ => [.int .i64 0, .int .i64 0, .int .i64 0]) (cs' := fun _ => encBed z) 10 (by decide) rfl rfl (fun _ => rfl) rfl (fun _ => rfl) (fun _ => rfl) (fun _ => rfl) (fun _ => rfl) (fun _ => rfl) (fun _ => rfl) (fun _ => rfl) (by intro G G' h; simp (decide := true) only [h]) (by exact fun _ _ _ => rfl) ?_) | ((with_reducible refine c_tail ?_ ?_); (· exact rfl)) | (with_reducible refine c_nil ?_)))
  intro G
  simp only [regsT, ini, List.nil_append, List.cons_append]
  refine u_own (H' := [.blk (G 10).g (encBed z), .blk (G 11).g [.int .i64 0, .int .i64 0, .int .i64 0, .int .i64 0, .bool false], .blk b [.int .i64 0, .int .i64 0], .blk _ (cellsCov c A ca (some ⟨bb, o, none⟩) cb (some ⟨bc, oc, none⟩) cc)]) (fun _ h => h) ?_
  unfold cellsCov
  (repeat' (first | ((with_reducible refine isOps ?_); first | refine u_move rfl rfl rfl rfl rfl ?_ | (refine x_load rfl rfl rfl rfl rfl ?_; refine ⟨_, rfl, ?_⟩) | refine u_field rfl rfl rfl rfl rfl ?_ | refine u_add1 rfl rfl rfl rfl rfl rfl (by omega) ?_ | refine u_add rfl rfl rfl rfl rfl rfl (IntWalk.i64_in _ (by omega)) ?_ | refine u_mul rfl rfl rfl rfl rfl rfl (IntWalk.i64_in _ (by omega)) ?_ | refine u_index rfl rfl rfl rfl rfl rfl rfl (by omega) ?_ | refine u_indexA rfl rfl rfl rfl rfl rfl rfl (by first | decide | omega) ?_ | (refine x_store rfl rfl rfl rfl rfl ?_; refine And.intro rfl (And.intro (by first | decide | exact Nat.le_of_ble_eq_true rfl | (simp; omega)) ⟨_, rfl, ?_⟩)) | (refine u_alloc rfl rfl rfl rfl (fun b => ?_)) | (refine u_box rfl rfl rfl rfl rfl rfl (fun b => ?_)) | (refine x_build rfl rfl rfl rfl rfl ?_; refine ⟨_, rfl, ?_⟩)) | (with_reducible first | refine u_seq ?_ | refine u_region ?_ | refine u_nil ?_ | refine u_then_n ?_ | refine u_ret ?_ | refine u_skip ?_ | refine u_then_r ?_ | refine u_end ?_)))
  exact u_done (by (exact ResL.cons (by exact res1c rfl (by exact rfl)) ResL.nil)) () trivial rfl (fun _ h => h.sub (by (repeat (first | exact Out.nil _ | (refine Out.cons (by (repeat (first | exact Take.here _ _ | apply Take.there))) ?_)))))
end Go.Proofs.YtdigopgncfhiaaaDoor.Two
