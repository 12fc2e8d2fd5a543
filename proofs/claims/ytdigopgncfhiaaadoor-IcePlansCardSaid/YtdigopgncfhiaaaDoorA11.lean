/- Comparisons of lists: SameSpans, SameInts, Same of the reference return whether the lists are equal. -/
import Derived.Test.YtdigopgncfhiaaaDoorA6
import Derived.Test.YtdigopgncfhiaaaDoorA10
import Derived.Test.YtdigopgncfhiaaaDoorA1
import Derived.LaidMore
namespace Go.Proofs.YtdigopgncfhiaaaDoor
set_option linter.unusedVariables false
set_option linter.unusedSimpArgs false
open Go.RowKit
theorem take_eq_full {α : Type} {a b : List α} {i : Nat} (h : a.take i = b.take i) (hl : a.length = b.length) (hi : a.length ≤ i) : a = b := by
  rwa [List.take_of_length_le hi, List.take_of_length_le (by omega)] at h
theorem take_eq_succ {α : Type} {a b : List α} {i : Nat} (h : a.take i = b.take i) (ha : i < a.length) (hb : i < b.length) (he : a[i] = b[i]) : a.take (i + 1) = b.take (i + 1) := by
  rw [List.take_succ_eq_append_getElem ha, List.take_succ_eq_append_getElem hb, h, he]
theorem ne_of_getElem {α : Type} {a b : List α} {i : Nat} (ha : i < a.length) (hb : i < b.length) (he : a[i] ≠ b[i]) : a ≠ b := by
  rintro rfl; exact he rfl
end Go.Proofs.YtdigopgncfhiaaaDoor
/- Same: two tracks. -/
namespace Go.Proofs.YtdigopgncfhiaaaDoor
set_option linter.unusedVariables false
open Go.RowKit
set_option linter.unusedSimpArgs false
set_option maxRecDepth 20000
set_option maxHeartbeats 1000000 in
theorem same_ints (a b : List Int) (A B : Option Addr) (c d : Nat) (w : World) (ha : SlAt encI 1 w A a) (hb : SlAt encI 1 w B b) (hla : a.length ≤ 1000000) (hlb : b.length ≤ 1000000) :
    Gives 61 #[.slice A a.length c, .slice B b.length d] w (.bool (decide (a = b))) := by
  unfold Gives
  have HA := Lib.hid ha
  have HB := Lib.hid hb
  clear ha hb
  by_cases hl : a.length = b.length
  · have hL := Lib.hid hl
    have hlt0 : b.length ≤ a.length := by omega
    have hlt1 : a.length ≤ b.length := by omega
    clear hl
    go_enter Tryd.func61, Tryd.ntmps61
    go_wp2
    go_loopw [5] (fun v wr => ∃ i : Nat, i ≤ a.length ∧ v = .int .i64 i ∧ Below w.heap.size w wr ∧ Hid (a.take i = b.take i)) (fun v _ => a.length - (intOf v).toNat)
    case atStart => exact ⟨0, Nat.zero_le _, rfl, Below.refl _ _, by unfold Hid; simp⟩
    case round =>
      obtain ⟨i, hi, rfl, hBw, hF⟩ := hrel
      by_cases hlt : i < a.length
      · have hltb : i < b.length := by omega
        obtain ⟨b1, o1, rfl, hb1, hc1⟩ := (HA.out.below hBw).at_ hlt
        obtain ⟨b2, o2, rfl, hb2, hc2⟩ := (HB.out.below hBw).at_ hltb
        have c1 := hc1 0 _ rfl
        have c3 := hc2 0 _ rfl
        simp only [Nat.add_zero, Nat.mul_one] at c1 c3
        clear hc1 hc2
        have hi0 : (0:Int) ≤ i := by omega
        have hi1 : (i:Int) < a.length := by omega
        have hi2 : (i:Int) < b.length := by omega
        by_cases he : a[i] = b[i]
        · have hq : a[i] = b[i] := he
          have HE := Lib.hid he
          clear he
          go_wp2_with fail
          go_quiet (fail)
          go_wp2
          go_roundw
          case rel => exact ⟨i + 1, by omega, by go_num, below_drewN hBw _, take_eq_succ hF.out hlt hltb HE.out⟩
          case measure => simp [intOf]; omega
        · have hq : ¬ a[i] = b[i] := he
          have HE := Lib.hid he
          clear he
          go_wp2_with fail
          go_quiet (fail)
          go_wp2
          go_ret
          exact ⟨ret_of (by simp [ne_of_getElem hlt hltb HE.out]), below_drewN hBw _⟩
      · go_wp2
        go_ret
        exact ⟨ret_of (by rw [take_eq_full hF.out hL.out (by omega)]; simp), hBw⟩
  · go_enter Tryd.func61, Tryd.ntmps61
    go_wp2
    go_ret
    exact ⟨ret_of (by simp; rintro rfl; exact hl rfl), Below.refl _ _⟩
open Go.RowKit
set_option linter.unusedSimpArgs false
set_option maxRecDepth 20000
set_option maxHeartbeats 4000000 in
theorem same_any (a b : List St) (A B : Option Addr) (c d : Nat) (w : World) (ha : SlAt encSt 9 w A a) (hb : SlAt encSt 9 w B b) (hla : a.length ≤ 1000000) (hlb : b.length ≤ 1000000) :
    Gives 62 #[vT A a.length c, vT B b.length d] w (.bool (decide (a = b))) := by
  unfold Gives vT
  have HA := Lib.hid ha
  have HB := Lib.hid hb
  clear ha hb
  by_cases hl : a.length = b.length
  · have hL := Lib.hid hl
    have hlt0 : b.length ≤ a.length := by omega
    have hlt1 : a.length ≤ b.length := by omega
    clear hl
    go_enter Tryd.func62, Tryd.ntmps62
    go_wp2
    go_loopw [5] (fun v wr => ∃ i : Nat, i ≤ a.length ∧ v = .int .i64 i ∧ Blk wr w.heap.size #[.slice A a.length c] ∧ Blk wr (w.heap.size + 1) #[.slice B b.length d] ∧ Below w.heap.size w wr ∧ Hid (a.take i = b.take i)) (fun v _ => a.length - (intOf v).toNat)
    case atStart => exact ⟨0, Nat.zero_le _, rfl, (by (refine blkE ?_; repeat (first | (with_reducible refine BlkE.new_ (by first | (simp; done) | (simp; omega) | omega) ?_; (first | rfl | (simp; done))) | (with_reducible refine BlkE.alloc ?_ _) | (with_reducible refine BlkE.far ?_ _ (by first | (simp; done) | (simp; omega) | omega)) | (with_reducible refine BlkE.set_ ?_ (by first | (simp; done) | (simp; omega) | omega)) | (with_reducible refine BlkE.drew ?_) | (with_reducible refine BlkE.drewN ?_ _) | (refine BlkE.leaf (by assumption) ?_; (first | rfl | (simp; done)))))), (by (refine blkE ?_; repeat (first | (with_reducible refine BlkE.new_ (by first | (simp; done) | (simp; omega) | omega) ?_; (first | rfl | (simp; done))) | (with_reducible refine BlkE.alloc ?_ _) | (with_reducible refine BlkE.far ?_ _ (by first | (simp; done) | (simp; omega) | omega)) | (with_reducible refine BlkE.set_ ?_ (by first | (simp; done) | (simp; omega) | omega)) | (with_reducible refine BlkE.drew ?_) | (with_reducible refine BlkE.drewN ?_ _) | (refine BlkE.leaf (by assumption) ?_; (first | rfl | (simp; done)))))), (by (repeat (first | (with_reducible refine bx_alloc ?_ _) | (with_reducible refine below_setCell ?_ (by first | (simp; done) | (simp; omega) | omega)) | (with_reducible refine below_drew ?_) | (with_reducible refine below_drewN ?_ _) | (with_reducible assumption) | (with_reducible exact Below.refl _ _)))), by unfold Hid; simp⟩
    case round =>
      obtain ⟨i, hi, rfl, k0, k1, hBw, hF⟩ := hrel
      obtain ⟨x0, f0, l0⟩ := k0.facts
      obtain ⟨x1, f1, l1⟩ := k1.facts
      by_cases hlt : i < a.length
      · have hltb : i < b.length := by omega
        obtain ⟨b1, o1, rfl, hb1, hc1⟩ := (HA.out.below hBw).at_ hlt
        obtain ⟨b2, o2, rfl, hb2, hc2⟩ := (HB.out.below hBw).at_ hltb
        have e0 := hc1 0 _ rfl
        have e1 := hc1 1 _ rfl
        have e2 := hc1 2 _ rfl
        have e3 := hc1 3 _ rfl
        have e4 := hc1 4 _ rfl
        have e5 := hc1 5 _ rfl
        have e6 := hc1 6 _ rfl
        have e7 := hc1 7 _ rfl
        have e8 := hc1 8 _ rfl
        have g0 := hc2 0 _ rfl
        have g1 := hc2 1 _ rfl
        have g2 := hc2 2 _ rfl
        have g3 := hc2 3 _ rfl
        have g4 := hc2 4 _ rfl
        have g5 := hc2 5 _ rfl
        have g6 := hc2 6 _ rfl
        have g7 := hc2 7 _ rfl
        have g8 := hc2 8 _ rfl
        simp only [Nat.add_zero] at e0 g0
        clear hc1 hc2
        have hi0 : (0:Int) ≤ i := by omega
        have hi1 : (i:Int) < a.length := by omega
        have hi2 : (i:Int) < b.length := by omega
        have hq : eqSt ⟨a[i].id, ⟨a[i].long.lo, a[i].long.hi⟩, ⟨a[i].fall.lo, a[i].fall.hi⟩, ⟨a[i].radius.lo, a[i].radius.hi⟩, a[i].side, a[i].wall⟩ ⟨b[i].id, ⟨b[i].long.lo, b[i].long.hi⟩, ⟨b[i].fall.lo, b[i].fall.hi⟩, ⟨b[i].radius.lo, b[i].radius.hi⟩, b[i].side, b[i].wall⟩ = decide (a[i] = b[i]) := by unfold eqSt; rfl
        by_cases he : a[i] = b[i]
        · rw [decide_eq_true he] at hq
          have HE := Lib.hid he
          clear he
          go_wp2_with fail
          go_quiet (fail)
          go_wp2
          go_roundw
          case rel => exact ⟨i + 1, by omega, by go_num, (by (refine blkE ?_; repeat (first | (with_reducible refine BlkE.new_ (by first | (simp; done) | (simp; omega) | omega) ?_; (first | rfl | (simp; done))) | (with_reducible refine BlkE.alloc ?_ _) | (with_reducible refine BlkE.far ?_ _ (by first | (simp; done) | (simp; omega) | omega)) | (with_reducible refine BlkE.set_ ?_ (by first | (simp; done) | (simp; omega) | omega)) | (with_reducible refine BlkE.drew ?_) | (with_reducible refine BlkE.drewN ?_ _) | (refine BlkE.leaf (by assumption) ?_; (first | rfl | (simp; done)))))), (by (refine blkE ?_; repeat (first | (with_reducible refine BlkE.new_ (by first | (simp; done) | (simp; omega) | omega) ?_; (first | rfl | (simp; done))) | (with_reducible refine BlkE.alloc ?_ _) | (with_reducible refine BlkE.far ?_ _ (by first | (simp; done) | (simp; omega) | omega)) | (with_reducible refine BlkE.set_ ?_ (by first | (simp; done) | (simp; omega) | omega)) | (with_reducible refine BlkE.drew ?_) | (with_reducible refine BlkE.drewN ?_ _) | (refine BlkE.leaf (by assumption) ?_; (first | rfl | (simp; done)))))), below_drewN hBw _, take_eq_succ hF.out hlt hltb HE.out⟩
          case measure => simp [intOf]; omega
        · rw [decide_eq_false he] at hq
          have HE := Lib.hid he
          clear he
          go_wp2_with fail
          go_quiet (fail)
          go_wp2
          go_ret
          exact ⟨ret_of (by simp [ne_of_getElem hlt hltb HE.out]), below_drewN hBw _⟩
      · go_wp2
        go_ret
        exact ⟨ret_of (by rw [take_eq_full hF.out hL.out (by omega)]; simp), hBw⟩
  · go_enter Tryd.func62, Tryd.ntmps62
    go_wp2
    go_ret
    exact ⟨ret_of (by simp; rintro rfl; exact hl rfl), (by (repeat (first | (with_reducible refine bx_alloc ?_ _) | (with_reducible refine below_setCell ?_ (by first | (simp; done) | (simp; omega) | omega)) | (with_reducible refine below_drew ?_) | (with_reducible refine below_drewN ?_ _) | (with_reducible assumption) | (with_reducible exact Below.refl _ _))))⟩
end Go.Proofs.YtdigopgncfhiaaaDoor
/- Ice: great covers and plans; twins. -/
namespace Go.Proofs.YtdigopgncfhiaaaDoor
open Go.RowKit
set_option linter.unusedSimpArgs false
set_option linter.unusedVariables false
set_option maxRecDepth 20000
def greatI (c : Cov) (pl : List Sli) : Bool := decide (20 < c.t.length) || (decide (20 < c.beds.length) || (decide (12 < c.hours.length) || (decide (12 < pl.length) || pl.any fun s => decide (20 < s.xs.length))))
theorem greatI_no {c : Cov} {pl : List Sli} (h : greatI c pl = false) : c.t.length ≤ 20 ∧ c.beds.length ≤ 20 ∧ c.hours.length ≤ 12 ∧ pl.length ≤ 12 ∧ ∀ s ∈ pl, s.xs.length ≤ 20 := by
  unfold greatI at h
  simp only [Bool.or_eq_false_iff, decide_eq_false_iff_not, List.any_eq_false, decide_eq_true_eq] at h
  obtain ⟨h1, h2, h3, h4, h5⟩ := h
  exact ⟨by omega, by omega, by omega, by omega, fun s hs => by have := h5 s hs; omega⟩
theorem greatI_yes1 {c : Cov} {pl : List Sli} (h : 20 < c.t.length ∨ 20 < c.beds.length ∨ 12 < c.hours.length ∨ 12 < pl.length) : greatI c pl = true := by
  cases hg : greatI c pl with
  | true => rfl
  | false => have := greatI_no hg; omega
theorem greatI_yes2 {c : Cov} {pl : List Sli} {s : Sli} (hs : s ∈ pl) (h : 20 < s.xs.length) : greatI c pl = true := by
  cases hg : greatI c pl with
  | true => rfl
  | false => have := (greatI_no hg).2.2.2.2 s hs; omega
theorem greatI_not {c : Cov} {pl : List Sli} (h1 : c.t.length ≤ 20) (h2 : c.beds.length ≤ 20) (h3 : c.hours.length ≤ 12) (h4 : pl.length ≤ 12) (h5 : ∀ s ∈ pl, s.xs.length ≤ 20) : greatI c pl = false := by
  unfold greatI
  simp only [Bool.or_eq_false_iff, decide_eq_false_iff_not, List.any_eq_false, decide_eq_true_eq]
  exact ⟨by omega, by omega, by omega, by omega, fun s hs => by have := h5 s hs; omega⟩
set_option maxHeartbeats 2000000 in
theorem rGreat2_any (c : Cov) (A : Option Addr) (ca : Nat) (B : Option Addr) (cb : Nat) (C : Option Addr) (cc : Nat) (pl : List Sli) (P : Option Addr) (cp : Nat) (w : World) (hp : PlanAt w P pl) (hcap : pl.length ≤ cp ∧ cp ≤ maxLen) :
    Gv Tryd.prog 6 [vCov c A ca B cb C cc, .slice P pl.length cp] w (.bool (greatI c pl)) := by
  have hpp := hp.p
  have hgr := fun W => (great_any A c.t.length ca W).gv
  unfold vT at hgr
  unfold Gv vCov cellsCov
  (refine ret_enter (n := 38) Tryd.func6 rfl rfl rfl ?_)
  (repeat' (first | ((with_reducible refine isOps ?_); first | refine u_move rfl rfl rfl rfl rfl ?_ | refine u_assign rfl rfl rfl rfl rfl ?_ | (refine x_load rfl rfl rfl rfl rfl ?_; refine ⟨_, rfl, ?_⟩) | refine u_field rfl rfl rfl rfl rfl ?_ | refine u_pick rfl rfl rfl rfl rfl rfl ?_ | refine u_not_wanted rfl rfl rfl ?_ | (refine u_cmp rfl rfl rfl rfl rfl rfl rfl (fun h => ?_) (fun h => ?_) <;> (dsimp only [cmpP] at h; (try (exfalso; omega)))) | (refine u_givesB rfl rfl rfl rfl rfl rfl (fun _ _ q => hgr _) (fun h => ?_) (fun h => ?_) <;> (try (exfalso; omega))) | refine u_len rfl rfl rfl rfl rfl ?_ | (refine u_box rfl rfl rfl rfl rfl rfl (fun b => ?_))) | (with_reducible first | refine u_seq ?_ | refine u_region ?_ | refine u_nil ?_ | refine u_then_n ?_ | refine u_ret ?_ | refine u_skip ?_ | refine u_then_r ?_ | refine u_block ?_) | ((with_reducible refine u_cond_t ?_ ?_); (· exact rfl)) | ((with_reducible refine u_cond_f ?_ ?_); (· exact rfl))))
  all_goals (try simp only [decide_eq_true_eq, decide_eq_false_iff_not] at *)
  all_goals first | exact u_done (by (exact ResL.cons (by exact Res1.tmp rfl) ResL.nil)) () trivial (by rw [greatI_yes1 (by omega)]; rfl) (fun _ h => h.sub (by (repeat (first | exact Out.nil _ | (refine Out.cons (by (repeat (first | exact Take.here _ _ | apply Take.there))) ?_))))) | skip
  refine u_loopP (ι := Nat) [1] rfl (fun i => i ≤ pl.length ∧ ∀ j (z : Sli), j < i → pl[j]? = some z → z.xs.length ≤ 20) (fun i => [(5, .int .i64 (i : Int))]) (fun _ => []) (fun i => pl.length - i) 0 ⟨Nat.zero_le _, fun j z h => by omega⟩ (by (first | exact fun _ _ h => lk_nil h | (repeat (first | exact (fun _ _ h => lk_nil h) | (refine lk_sub rfl ?_))))) (by (repeat (first | exact Out.nil _ | (refine Out.cons (by (repeat (first | exact Take.here _ _ | apply Take.there))) ?_)))) ?_
  rintro i ⟨hi, hall⟩
  simp only [zipR, List.cons_append, List.nil_append]
  by_cases hlt : i < pl.length
  · obtain ⟨s, hsi⟩ : ∃ s, pl[i]? = some s := ⟨_, List.getElem?_eq_getElem hlt⟩
    have hsm := List.mem_of_getElem? hsi
    obtain ⟨bb, o, rfl, hblt, hc⟩ := hpp.at_ hlt
    have : InS w bb o encSli 1 pl := ⟨hpp⟩
    have : GetI pl i s := ⟨hsi⟩
    have hy := fun h => greatI_yes2 (c := c) hsm h
    obtain ⟨sA, xs, sc⟩ := s
    simp only at hy
    (repeat' (first | ((with_reducible refine isOps ?_); first | refine u_move rfl rfl rfl rfl rfl ?_ | refine u_assign rfl rfl rfl rfl rfl ?_ | (refine x_load rfl rfl rfl rfl rfl ?_; refine ⟨_, rfl, ?_⟩) | (refine u_cmp rfl rfl rfl rfl rfl rfl rfl (fun h => ?_) (fun h => ?_) <;> (dsimp only [cmpP] at h; (try (exfalso; omega)))) | refine u_add1 rfl rfl rfl rfl rfl rfl (by omega) ?_ | refine u_index rfl rfl rfl rfl rfl rfl rfl (by omega) ?_ | refine u_len rfl rfl rfl rfl rfl ?_) | (with_reducible first | refine u_seq ?_ | refine u_region ?_ | refine u_nil ?_ | refine u_then_n ?_ | refine u_ret ?_ | refine u_skip ?_ | refine u_then_r ?_ | refine u_block ?_ | refine u_in_n ?_ | refine u_in_r ?_) | ((with_reducible refine u_cond_t ?_ ?_); (· exact rfl)) | ((with_reducible refine u_cond_f ?_ ?_); (· exact rfl))))
    · exact u_done (by (exact ResL.cons (by exact Res1.tmp rfl) ResL.nil)) () trivial (by rw [hy (by omega)]; rfl) (fun _ h => h.sub (by (repeat (first | exact Out.nil _ | (refine Out.cons (by (repeat (first | exact Take.here _ _ | apply Take.there))) ?_)))))
    · exact u_again (i + 1) ⟨by omega, fun j z hj hz => by
        by_cases e : j = i
        · subst e; rw [hsi] at hz; cases hz; simp only; omega
        · exact hall j z (by omega) hz⟩ (by omega) (by (first | exact fun _ _ h => lk_nil h | (repeat (first | exact (fun _ _ h => lk_nil h) | (refine lk_sub rfl ?_))))) (by (repeat (first | exact Out.nil _ | (refine Out.cons (by (repeat (first | exact Take.here _ _ | apply Take.there))) ?_))))
  · obtain rfl : i = pl.length := by omega
    have hg : greatI c pl = false := greatI_not (by omega) (by omega) (by omega) (by omega) (fun s hs => by
      obtain ⟨j, hj⟩ := List.mem_iff_getElem?.1 hs
      exact hall j s (List.getElem?_eq_some_iff.1 hj).1 hj)
    (repeat' (first | ((with_reducible refine isOps ?_); first | refine u_move rfl rfl rfl rfl rfl ?_ | refine u_assign rfl rfl rfl rfl rfl ?_ | (refine u_cmp rfl rfl rfl rfl rfl rfl rfl (fun h => ?_) (fun h => ?_) <;> (dsimp only [cmpP] at h; (try (exfalso; omega)))) | refine u_len rfl rfl rfl rfl rfl ?_) | (with_reducible first | refine u_seq ?_ | refine u_region ?_ | refine u_nil ?_ | refine u_then_n ?_ | refine u_ret ?_ | refine u_exit ?_ | refine u_in_same ?_ | refine u_then_e ?_) | ((with_reducible refine u_cond_f ?_ ?_); (· exact rfl))))
    exact u_done (by (exact ResL.cons (by exact Res1.tmp rfl) ResL.nil)) () trivial (by rw [hg]; rfl) (fun _ h => h.sub (by (repeat (first | exact Out.nil _ | (refine Out.cons (by (repeat (first | exact Take.here _ _ | apply Take.there))) ?_)))))
/-! ### twins -/
set_option maxHeartbeats 2000000 in
theorem twin2_any (c : Cov) (A : Option Addr) (ca : Nat) (B : Option Addr) (cb : Nat) (C : Option Addr) (cc : Nat) (w : World) (h : CovAt w c A B C) (h1 : c.t.length ≤ 1000) (h2 : c.beds.length ≤ 1000) (h3 : c.hours.length ≤ 1000) :
    Ret Tryd.prog 7 [vCov c A ca B cb C cc] w (fun p : (Option Addr × Nat) × (Option Addr × Nat) × (Option Addr × Nat) => vCov c p.1.1 p.1.2 p.2.1.1 p.2.1.2 p.2.2.1 p.2.2.2) (fun p => [.sl encSt 9 p.1.1 c.t, .sl encBed 3 p.2.1.1 c.beds, .sl encHour 5 p.2.2.1 c.hours]) (fun _ => True) := by
  have hb := h.b; have hh := h.h
  have hT := fun W (hW : Below w.heap.size w W) => twin_any c.t A ca W (h.t.below hW) h1
  unfold vT at hT
  unfold vCov cellsCov
  (refine ret_enter (n := 18) Tryd.func7 rfl rfl rfl ?_)
  (repeat' (first | ((with_reducible refine isOps ?_); first | (refine x_load rfl rfl rfl rfl rfl ?_; refine ⟨_, rfl, ?_⟩) | refine u_field rfl rfl rfl rfl rfl ?_ | refine u_newsl rfl rfl rfl rfl rfl rfl (fun _ _ q => hT _ q.below) (fun A' c' => ?_) | (refine u_buildNil encBed (e := 117) rfl rfl rfl rfl (fun b => ?_)) | (refine u_append (enc := encBed) c.beds rfl rfl rfl rfl rfl (by (repeat (first | exact Take.here _ _ | apply Take.there))) rfl rfl (src_in hb) (by refine ⟨?_, by decide⟩; (try simp only [List.length_append, List.length_cons, List.length_nil]); omega) (fun A' c' => ?_)) | (refine u_buildNil encHour (e := 120) rfl rfl rfl rfl (fun b => ?_)) | (refine u_append (enc := encHour) c.hours rfl rfl rfl rfl rfl (by (repeat (first | exact Take.here _ _ | apply Take.there))) rfl rfl (src_in hh) (by refine ⟨?_, by decide⟩; (try simp only [List.length_append, List.length_cons, List.length_nil]); omega) (fun A' c' => ?_)) | (refine x_store rfl rfl rfl rfl rfl ?_; refine And.intro rfl (And.intro (by first | decide | exact Nat.le_of_ble_eq_true rfl | (simp; omega)) ⟨_, rfl, ?_⟩)) | (refine u_alloc rfl rfl rfl rfl (fun b => ?_)) | (refine u_box rfl rfl rfl rfl rfl rfl (fun b => ?_))) | (with_reducible first | refine u_seq ?_ | refine u_region ?_ | refine u_nil ?_ | refine u_then_n ?_ | refine u_ret ?_)))
  rename_i A1 c1 bb A2 c2
  simp only [List.nil_append]
  exact u_done (by (exact ResL.cons (by exact res1c rfl (by exact rfl)) ResL.nil)) ((A1, c1), (A2, c2), (A', c')) trivial rfl (fun _ h => ((h.row_sl (enc := encHour) (by (repeat (first | exact Take.here _ _ | apply Take.there)))).row_sl (enc := encBed) (by (repeat (first | exact Take.here _ _ | apply Take.there)))).sub (by (repeat (first | exact Out.nil _ | (refine Out.cons (by (repeat (first | exact Take.here _ _ | apply Take.there))) ?_)))))
end Go.Proofs.YtdigopgncfhiaaaDoor
/- Ice: twins of plans; comparisons. -/
namespace Go.Proofs.YtdigopgncfhiaaaDoor
open Go.RowKit
set_option linter.unusedSimpArgs false
set_option linter.unusedVariables false
set_option maxRecDepth 20000
/-- the rows of a plan -/
def Ent.rows (l : List Sli) : Ent := ⟨fun b => ∃ s ∈ l, ∃ o, s.A = some ⟨b, o, none⟩, fun w => ∀ s ∈ l, SlAt encI 1 w s.A s.xs, fun w w' hs h hp s hm => (Ent.sl encI 1 s.A s.xs).loc w w' hs (fun b hb => h b ⟨s, hm, hb⟩) (hp s hm)⟩
theorem elem_sl : Elem Tryd.prog 39 33 1 24 (.slice none 0 0) :=
  ⟨by rfl, by exact ⟨_, rfl, rfl, rfl, rfl⟩, by decide, by decide⟩
instance elI_sl : ElI Tryd.prog 39 33 1 24 := ⟨⟨_, elem_sl⟩⟩
/-! ### comparisons -/
theorem getD_xs {pl pl' : List Sli} (h : pl.map Sli.xs = pl'.map Sli.xs) (i : Nat) : (pl.getD i default).xs = (pl'.getD i default).xs := by
  have e : ∀ l : List Sli, (l.getD i default).xs = (l.map Sli.xs).getD i [] := fun l => by
    simp only [List.getD_eq_getElem?_getD, List.getElem?_map]
    cases l[i]? <;> rfl
  rw [e, e, h]
end Go.Proofs.YtdigopgncfhiaaaDoor
/- Ice: a cover is the same as itself, a plan too. -/
namespace Go.Proofs.YtdigopgncfhiaaaDoor
open Go.RowKit
set_option linter.unusedSimpArgs false
set_option linter.unusedVariables false
set_option maxRecDepth 20000
theorem guardBe : Tryd.prog.eqGuardType Tryd.prog.depth 117 = false := by kernel_rfl
theorem heldBe : Tryd.prog.stoodInHeld 117 = false := by kernel_rfl
theorem guardHo : Tryd.prog.eqGuardType Tryd.prog.depth 120 = false := by kernel_rfl
theorem heldHo : Tryd.prog.stoodInHeld 120 = false := by kernel_rfl
theorem run_eqIn_be (d : Nat) (z : Bed) (w : World) : (Op.equalIn (d + 3) 117 (vBed z) (vBed z)).run Tryd.prog w = .ok true w := by
  obtain ⟨⟨a, b⟩, s⟩ := z
  unfold vBed
  rw [run_equalIn_agg _ _ _ _ _ (by simp [go_sem]) heldBe]
  have e : eqSp ⟨a, b⟩ ⟨a, b⟩ = true := eqSp_iff.2 ⟨rfl, rfl⟩
  simp [go_sem, run_eqIn_sp, e]
theorem run_eqIn_ho (d : Nat) (u : Hour) (w : World) : (Op.equalIn (d + 3) 120 (vHour u) (vHour u)).run Tryd.prog w = .ok true w := by
  obtain ⟨⟨a, b⟩, r, c, s⟩ := u
  unfold vHour
  rw [run_equalIn_agg _ _ _ _ _ (by simp [go_sem]) heldHo]
  have e : eqSp ⟨a, b⟩ ⟨a, b⟩ = true := eqSp_iff.2 ⟨rfl, rfl⟩
  have e2 : (Op.equalIn (d + 2) 4 (.bool s) (.bool s)).run Tryd.prog w = .ok true w := by
    have e := run_underlying (P := Tryd.prog) Tryd.underlying4 w
    unfold Op.equalIn
    simp [e]
  simp [go_sem, run_eqIn_sp, e, e2]
section
variable {w0 : World} {n : Nat} {d : List Deferred} {R : List (Nat × Value)} {H : List Ent} {o : Oper} {x y : Operand}
theorem e_neBe (z : Bed) {T' : TypeId} (hop : o.op = .binOp .neq 117 x y T') (hx : evR R x = some (vBed z)) (hy : evR R y = some (vBed z)) : Ev Tryd.prog w0 n d R H o (.bool false) := fun a w q => by
  have e := run_eqIn_be 9997 z w
  have g : (eqGuard .neq 117 x y (vBed z) (vBed z)).run Tryd.prog w = .ok () w := run_eqGuard_agg _ _ _ _ _ _ _ guardBe
  unfold execOp; rw [hop]
  unfold vBed at *
  simp only [Sem.run_bind, q.ev hx, q.ev hy, g, Result.andThen_ok]
  rw [run_neq_struct, e]; rfl
theorem e_neHo (u : Hour) {T' : TypeId} (hop : o.op = .binOp .neq 120 x y T') (hx : evR R x = some (vHour u)) (hy : evR R y = some (vHour u)) : Ev Tryd.prog w0 n d R H o (.bool false) := fun a w q => by
  have e := run_eqIn_ho 9997 u w
  have g : (eqGuard .neq 120 x y (vHour u) (vHour u)).run Tryd.prog w = .ok () w := run_eqGuard_agg _ _ _ _ _ _ _ guardHo
  unfold execOp; rw [hop]
  unfold vHour at *
  simp only [Sem.run_bind, q.ev hx, q.ev hy, g, Result.andThen_ok]
  rw [run_neq_struct, e]; rfl
end
set_option maxHeartbeats 2000000 in
theorem sameLists_yes (a m : List Sli) (A : Option Addr) (ca : Nat) (B : Option Addr) (cb : Nat) (w : World) (ha : PlanAt w A a) (hb : PlanAt w B m) (hab : a.map Sli.xs = m.map Sli.xs) (hl : a.length ≤ 1000) (hrl : ∀ s ∈ m, s.xs.length ≤ 1000) :
    Gv Tryd.prog 17 [.slice A a.length ca, .slice B m.length cb] w (.bool true) := by
  have hlen : a.length = m.length := by have := congrArg List.length hab; simpa using this
  have hap := ha.p; have hbp := hb.p
  have hS : ∀ (x : List Int) (X : Option Addr) (cx : Nat) (Y : Option Addr) (cy : Nat) W, SlAt encI 1 W X x → SlAt encI 1 W Y x → x.length ≤ 1000 → Gv Tryd.prog 16 [.slice X x.length cx, .slice Y x.length cy] W (.bool true) := by
    intro x X cx Y cy W h1 h2 h3
    have hs := fun W' (hW : Below W.heap.size W W') => (same_ints x x X Y cx cy W' (h1.below hW) (h2.below hW) (by omega) (by omega)).gv
    simp only [decide_true] at hs
    unfold Gv
    (refine ret_enter (n := 8) Tryd.func16 rfl rfl rfl ?_)
    (repeat' (first | ((with_reducible refine isOps ?_); first | refine u_move rfl rfl rfl rfl rfl ?_ | refine u_assign rfl rfl rfl rfl rfl ?_ | refine u_gives rfl rfl rfl rfl rfl rfl (fun _ _ q => hs _ q.below) ?_) | (with_reducible first | refine u_seq ?_ | refine u_region ?_ | refine u_nil ?_ | refine u_then_n ?_ | refine u_ret ?_)))
    all_goals exact u_done (by (exact ResL.cons (by exact Res1.tmp rfl) ResL.nil)) () trivial rfl (fun _ h => h.sub (by (repeat (first | exact Out.nil _ | (refine Out.cons (by (repeat (first | exact Take.here _ _ | apply Take.there))) ?_)))))
  unfold Gv
  (refine ret_enter (n := 27) Tryd.func17 rfl rfl rfl ?_)
  (repeat' (first | ((with_reducible refine isOps ?_); first | refine u_move rfl rfl rfl rfl rfl ?_ | refine u_assign rfl rfl rfl rfl rfl ?_ | (refine u_cmp rfl rfl rfl rfl rfl rfl rfl (fun h => ?_) (fun h => ?_) <;> (dsimp only [cmpP] at h; (try (exfalso; omega)))) | refine u_len rfl rfl rfl rfl rfl ?_) | (with_reducible first | refine u_seq ?_ | refine u_region ?_ | refine u_nil ?_ | refine u_then_n ?_ | refine u_skip ?_ | refine u_block ?_) | ((with_reducible refine u_cond_f ?_ ?_); (· exact rfl))))
  refine u_loopP (ι := Nat) [0, 1] rfl (fun i => i ≤ a.length) (fun i => [(5, .int .i64 (i : Int))]) (fun _ => []) (fun i => a.length - i) 0 (Nat.zero_le _) (by (first | exact fun _ _ h => lk_nil h | (repeat (first | exact (fun _ _ h => lk_nil h) | (refine lk_sub rfl ?_))))) (by (repeat (first | exact Out.nil _ | (refine Out.cons (by (repeat (first | exact Take.here _ _ | apply Take.there))) ?_)))) ?_
  rintro i hi
  simp only [zipR, List.cons_append, List.nil_append]
  by_cases hlt : i < a.length
  · obtain ⟨s, hsi⟩ : ∃ s, a[i]? = some s := ⟨_, List.getElem?_eq_getElem hlt⟩
    obtain ⟨u, hui⟩ : ∃ u, m[i]? = some u := ⟨_, List.getElem?_eq_getElem (by omega)⟩
    have hxs : s.xs = u.xs := by
      have := getD_xs hab i
      rwa [getD_of hsi, getD_of hui] at this
    have r1 := ha.rows s (List.mem_of_getElem? hsi)
    have r2 := hb.rows u (List.mem_of_getElem? hui)
    have r3 := hrl u (List.mem_of_getElem? hui)
    obtain ⟨b1, o1, rfl, hb1, hc1⟩ := hap.at_ hlt
    obtain ⟨b2, o2, rfl, hb2, hc2⟩ := hbp.at_ (show i < m.length by omega)
    have : InS w b1 o1 encSli 1 a := ⟨hap⟩
    have : InS w b2 o2 encSli 1 m := ⟨hbp⟩
    obtain ⟨sA, xs, sc⟩ := s
    obtain ⟨uA, xs', uc⟩ := u
    simp only at hxs r1 r2 r3
    subst hxs
    have : GetI a i ⟨sA, xs, sc⟩ := ⟨hsi⟩
    have : GetI m i ⟨uA, xs, uc⟩ := ⟨hui⟩
    (repeat' (first | ((with_reducible refine isOps ?_); first | refine u_move rfl rfl rfl rfl rfl ?_ | (refine u_cmp rfl rfl rfl rfl rfl rfl rfl (fun h => ?_) (fun h => ?_) <;> (dsimp only [cmpP] at h; (try (exfalso; omega)))) | refine u_len rfl rfl rfl rfl rfl ?_) | (with_reducible first | refine u_seq ?_ | refine u_region ?_ | refine u_nil ?_ | refine u_then_n ?_ | refine u_skip ?_ | refine u_block ?_) | ((with_reducible refine u_cond_t ?_ ?_); (· exact rfl))))
    (refine u_quiet (by kernel_rfl) (by kernel_rfl) (by kernel_rfl) ?_)
    (repeat' (first | ((with_reducible refine isOpsQ ?_); first | refine q_val (e_move rfl rfl) rfl rfl rfl ?_ | refine q_val (e_load' rfl rfl (by exact rfl)) rfl rfl rfl ?_ | refine q_val (e_index (I := i) rfl rfl rfl (by omega) (by first | omega | (dsimp only; omega))) rfl rfl rfl ?_ | refine q_gives rfl rfl rfl rfl rfl rfl (fun _ _ q => hS xs _ _ _ _ _ (r1.below q.below) (r2.below q.below) r3) ?_ | refine q_val (e_not rfl rfl) rfl rfl rfl ?_) | (with_reducible refine q_nil ?_)))
    (repeat' (first | ((with_reducible refine isOps ?_); first | refine u_move rfl rfl rfl rfl rfl ?_ | refine u_assign rfl rfl rfl rfl rfl ?_ | refine u_add1 rfl rfl rfl rfl rfl rfl (by omega) ?_) | (with_reducible first | refine u_region ?_ | refine u_nil ?_ | refine u_then_n ?_ | refine u_skip ?_ | refine u_in_n ?_) | ((with_reducible refine u_cond_f ?_ ?_); (· exact rfl))))
    exact u_again (i + 1) (by omega) (by omega) (by (first | exact fun _ _ h => lk_nil h | (repeat (first | exact (fun _ _ h => lk_nil h) | (refine lk_sub rfl ?_))))) (by (repeat (first | exact Out.nil _ | (refine Out.cons (by (repeat (first | exact Take.here _ _ | apply Take.there))) ?_))))
  · obtain rfl : i = a.length := by omega
    (repeat' (first | ((with_reducible refine isOps ?_); first | refine u_move rfl rfl rfl rfl rfl ?_ | refine u_assign rfl rfl rfl rfl rfl ?_ | (refine u_cmp rfl rfl rfl rfl rfl rfl rfl (fun h => ?_) (fun h => ?_) <;> (dsimp only [cmpP] at h; (try (exfalso; omega)))) | refine u_len rfl rfl rfl rfl rfl ?_) | (with_reducible first | refine u_seq ?_ | refine u_region ?_ | refine u_nil ?_ | refine u_then_n ?_ | refine u_ret ?_ | refine u_exit ?_ | refine u_in_same ?_ | refine u_then_e ?_) | ((with_reducible refine u_cond_f ?_ ?_); (· exact rfl))))
    exact u_done (by (exact ResL.cons (by exact Res1.tmp rfl) ResL.nil)) () trivial rfl (fun _ h => h.sub (by (repeat (first | exact Out.nil _ | (refine Out.cons (by (repeat (first | exact Take.here _ _ | apply Take.there))) ?_)))))
set_option maxHeartbeats 4000000 in
theorem same2_yes (c : Cov) (A : Option Addr) (ca : Nat) (B : Option Addr) (cb : Nat) (C : Option Addr) (cc : Nat) (A2 : Option Addr) (ca2 : Nat) (B2 : Option Addr) (cb2 : Nat) (C2 : Option Addr) (cc2 : Nat) (w : World) (h : CovAt w c A B C) (h2 : CovAt w c A2 B2 C2) (hs : Small c) :
    Gv Tryd.prog 18 [vCov c A ca B cb C cc, vCov c A2 ca2 B2 cb2 C2 cc2] w (.bool true) := by
  have h3 := hs.t; have h4 := hs.b; have h5 := hs.h
  have hb := h.b; have hh := h.h
  have hb2 := h2.b; have hh2 := h2.h
  have hT := fun W (hW : Below w.heap.size w W) => (same_any c.t c.t A A2 ca ca2 W (h.t.below hW) (h2.t.below hW) (by omega) (by omega)).gv
  simp only [decide_true] at hT
  unfold vT at hT
  unfold Gv vCov cellsCov
  (refine ret_enter (n := 102) Tryd.func18 rfl rfl rfl ?_)
  (repeat' (first | ((with_reducible refine isOps ?_); first | refine u_move rfl rfl rfl rfl rfl ?_ | refine u_assign rfl rfl rfl rfl rfl ?_ | (refine x_load rfl rfl rfl rfl rfl ?_; refine ⟨_, rfl, ?_⟩) | refine u_field rfl rfl rfl rfl rfl ?_ | refine u_pick rfl rfl rfl rfl rfl rfl ?_ | (refine u_cmp rfl rfl rfl rfl rfl rfl rfl (fun h => ?_) (fun h => ?_) <;> (dsimp only [cmpP] at h; (try (exfalso; omega)))) | refine u_gives rfl rfl rfl rfl rfl rfl (fun _ _ q => hT _ q.below) ?_ | (refine u_nesp rfl rfl rfl rfl rfl rfl (fun h => ?_) (fun h => ?_) <;> (try (exfalso; omega))) | refine u_not rfl rfl rfl rfl rfl ?_ | refine u_len rfl rfl rfl rfl rfl ?_ | (refine u_box rfl rfl rfl rfl rfl rfl (fun b => ?_))) | (with_reducible first | refine u_seq ?_ | refine u_region ?_ | refine u_nil ?_ | refine u_then_n ?_ | refine u_skip ?_ | refine u_block ?_) | ((with_reducible refine u_cond_f ?_ ?_); (· exact rfl))))
  all_goals first | (exfalso; simp_all; done) | skip
  rename_i b2 q1 q2 q3 q4 q5 q6
  refine u_loopP (ι := Nat) [2, 3] rfl (fun i => i ≤ c.beds.length) (fun i => [(5, .int .i64 (i : Int))]) (fun _ => [.blk b (cellsCov c A2 ca2 B2 cb2 C2 cc2), .blk b2 (cellsCov c A ca B cb C cc)]) (fun i => c.beds.length - i) 0 (Nat.zero_le _) (by (first | exact fun _ _ h => lk_nil h | (repeat (first | exact (fun _ _ h => lk_nil h) | (refine lk_sub rfl ?_))))) (by (repeat (first | exact Out.nil _ | (refine Out.cons (by (repeat (first | exact Take.here _ _ | apply Take.there))) ?_)))) ?_
  rintro i hi
  simp only [zipR, List.cons_append, List.nil_append]
  unfold cellsCov
  by_cases hlt : i < c.beds.length
  · obtain ⟨z, hz⟩ : ∃ z, c.beds[i]? = some z := ⟨_, List.getElem?_eq_getElem hlt⟩
    obtain ⟨p1, o1, rfl, hp1, hc1⟩ := hb.at_ hlt
    obtain ⟨p2, o2, rfl, hp2, hc2⟩ := hb2.at_ hlt
    have : InS w p1 o1 encBed 3 c.beds := ⟨hb⟩
    have : InS w p2 o2 encBed 3 c.beds := ⟨hb2⟩
    have : GetI c.beds i z := ⟨hz⟩
    (repeat' (first | ((with_reducible refine isOps ?_); first | refine u_move rfl rfl rfl rfl rfl ?_ | (refine x_load rfl rfl rfl rfl rfl ?_; refine ⟨_, rfl, ?_⟩) | refine u_field rfl rfl rfl rfl rfl ?_ | (refine u_cmp rfl rfl rfl rfl rfl rfl rfl (fun h => ?_) (fun h => ?_) <;> (dsimp only [cmpP] at h; (try (exfalso; omega)))) | refine u_len rfl rfl rfl rfl rfl ?_) | (with_reducible first | refine u_seq ?_ | refine u_region ?_ | refine u_nil ?_ | refine u_then_n ?_ | refine u_skip ?_ | refine u_block ?_) | ((with_reducible refine u_cond_t ?_ ?_); (· exact rfl))))
    (refine u_quiet (by kernel_rfl) (by kernel_rfl) (by kernel_rfl) ?_)
    (repeat' (first | ((with_reducible refine isOpsQ ?_); first | refine q_val (e_move rfl rfl) rfl rfl rfl ?_ | refine q_val (e_load' rfl rfl (by exact rfl)) rfl rfl rfl ?_ | refine q_val (e_field rfl rfl) rfl rfl rfl ?_ | refine q_val (e_index (I := i) rfl rfl rfl (by omega) (by first | omega | (dsimp only; omega))) rfl rfl rfl ?_ | refine q_val (e_neBe z rfl rfl rfl) rfl rfl rfl ?_) | (with_reducible refine q_nil ?_)))
    (repeat' (first | ((with_reducible refine isOps ?_); first | refine u_move rfl rfl rfl rfl rfl ?_ | refine u_assign rfl rfl rfl rfl rfl ?_ | refine u_add1 rfl rfl rfl rfl rfl rfl (by omega) ?_) | (with_reducible first | refine u_region ?_ | refine u_nil ?_ | refine u_then_n ?_ | refine u_skip ?_ | refine u_in_n ?_) | ((with_reducible refine u_cond_f ?_ ?_); (· exact rfl))))
    exact u_again (i + 1) (by omega) (by omega) (by (first | exact fun _ _ h => lk_nil h | (repeat (first | exact (fun _ _ h => lk_nil h) | (refine lk_sub rfl ?_))))) (by (repeat (first | exact Out.nil _ | (refine Out.cons (by (repeat (first | exact Take.here _ _ | apply Take.there))) ?_))))
  · obtain rfl : i = c.beds.length := by omega
    (repeat' (first | ((with_reducible refine isOps ?_); first | refine u_move rfl rfl rfl rfl rfl ?_ | refine u_assign rfl rfl rfl rfl rfl ?_ | (refine x_load rfl rfl rfl rfl rfl ?_; refine ⟨_, rfl, ?_⟩) | refine u_field rfl rfl rfl rfl rfl ?_ | (refine u_cmp rfl rfl rfl rfl rfl rfl rfl (fun h => ?_) (fun h => ?_) <;> (dsimp only [cmpP] at h; (try (exfalso; omega)))) | refine u_len rfl rfl rfl rfl rfl ?_) | (with_reducible first | refine u_seq ?_ | refine u_region ?_ | refine u_nil ?_ | refine u_then_n ?_ | refine u_block ?_ | refine u_exit ?_ | refine u_in_same ?_ | refine u_then_e ?_) | ((with_reducible refine u_cond_f ?_ ?_); (· exact rfl))))
    refine u_loopP (ι := Nat) [2, 3] rfl (fun i => i ≤ c.hours.length) (fun i => [(6, .int .i64 (i : Int))]) (fun _ => [.blk b (cellsCov c A2 ca2 B2 cb2 C2 cc2), .blk b2 (cellsCov c A ca B cb C cc)]) (fun i => c.hours.length - i) 0 (Nat.zero_le _) (by (first | exact fun _ _ h => lk_nil h | (repeat (first | exact (fun _ _ h => lk_nil h) | (refine lk_sub rfl ?_))))) (by (repeat (first | exact Out.nil _ | (refine Out.cons (by (repeat (first | exact Take.here _ _ | apply Take.there))) ?_)))) ?_
    rintro i hi
    simp only [zipR, List.cons_append, List.nil_append]
    unfold cellsCov
    by_cases hlt : i < c.hours.length
    · obtain ⟨u, hu⟩ : ∃ u, c.hours[i]? = some u := ⟨_, List.getElem?_eq_getElem hlt⟩
      obtain ⟨p1, o1, rfl, hp1, hc1⟩ := hh.at_ hlt
      obtain ⟨p2, o2, rfl, hp2, hc2⟩ := hh2.at_ hlt
      have : InS w p1 o1 encHour 5 c.hours := ⟨hh⟩
      have : InS w p2 o2 encHour 5 c.hours := ⟨hh2⟩
      have : GetI c.hours i u := ⟨hu⟩
      (repeat' (first | ((with_reducible refine isOps ?_); first | refine u_move rfl rfl rfl rfl rfl ?_ | (refine x_load rfl rfl rfl rfl rfl ?_; refine ⟨_, rfl, ?_⟩) | refine u_field rfl rfl rfl rfl rfl ?_ | (refine u_cmp rfl rfl rfl rfl rfl rfl rfl (fun h => ?_) (fun h => ?_) <;> (dsimp only [cmpP] at h; (try (exfalso; omega)))) | refine u_len rfl rfl rfl rfl rfl ?_) | (with_reducible first | refine u_seq ?_ | refine u_region ?_ | refine u_nil ?_ | refine u_then_n ?_ | refine u_skip ?_ | refine u_block ?_) | ((with_reducible refine u_cond_t ?_ ?_); (· exact rfl))))
      (refine u_quiet (by kernel_rfl) (by kernel_rfl) (by kernel_rfl) ?_)
      (repeat' (first | ((with_reducible refine isOpsQ ?_); first | refine q_val (e_move rfl rfl) rfl rfl rfl ?_ | refine q_val (e_load' rfl rfl (by exact rfl)) rfl rfl rfl ?_ | refine q_val (e_field rfl rfl) rfl rfl rfl ?_ | refine q_val (e_index (I := i) rfl rfl rfl (by omega) (by first | omega | (dsimp only; omega))) rfl rfl rfl ?_ | refine q_val (e_neHo u rfl rfl rfl) rfl rfl rfl ?_) | (with_reducible refine q_nil ?_)))
      (repeat' (first | ((with_reducible refine isOps ?_); first | refine u_move rfl rfl rfl rfl rfl ?_ | refine u_assign rfl rfl rfl rfl rfl ?_ | refine u_add1 rfl rfl rfl rfl rfl rfl (by omega) ?_) | (with_reducible first | refine u_region ?_ | refine u_nil ?_ | refine u_then_n ?_ | refine u_skip ?_ | refine u_in_n ?_) | ((with_reducible refine u_cond_f ?_ ?_); (· exact rfl))))
      exact u_again (i + 1) (by omega) (by omega) (by (first | exact fun _ _ h => lk_nil h | (repeat (first | exact (fun _ _ h => lk_nil h) | (refine lk_sub rfl ?_))))) (by (repeat (first | exact Out.nil _ | (refine Out.cons (by (repeat (first | exact Take.here _ _ | apply Take.there))) ?_))))
    · obtain rfl : i = c.hours.length := by omega
      (repeat' (first | ((with_reducible refine isOps ?_); first | refine u_move rfl rfl rfl rfl rfl ?_ | refine u_assign rfl rfl rfl rfl rfl ?_ | (refine x_load rfl rfl rfl rfl rfl ?_; refine ⟨_, rfl, ?_⟩) | refine u_field rfl rfl rfl rfl rfl ?_ | (refine u_cmp rfl rfl rfl rfl rfl rfl rfl (fun h => ?_) (fun h => ?_) <;> (dsimp only [cmpP] at h; (try (exfalso; omega)))) | refine u_len rfl rfl rfl rfl rfl ?_) | (with_reducible first | refine u_seq ?_ | refine u_region ?_ | refine u_nil ?_ | refine u_then_n ?_ | refine u_ret ?_ | refine u_exit ?_ | refine u_in_same ?_ | refine u_then_e ?_) | ((with_reducible refine u_cond_f ?_ ?_); (· exact rfl))))
      exact u_done (by (exact ResL.cons (by exact Res1.tmp rfl) ResL.nil)) () trivial rfl (fun _ h => h.sub (by (repeat (first | exact Out.nil _ | (refine Out.cons (by (repeat (first | exact Take.here _ _ | apply Take.there))) ?_)))))
end Go.Proofs.YtdigopgncfhiaaaDoor
/- Covers and plans as they are read; the table of limits. -/
namespace Go.Proofs.YtdigopgncfhiaaaDoor
open Go.ChangeShapes Go.WideShapes Go.ChangeAt Go.RowKit
set_option linter.unusedSimpArgs false
set_option linter.unusedVariables false
section
variable {H : Type} {enc : TypeId × Value → H} {w : World} {sp : Nat → Bool} {held : Bool} {n : Nat} {cs : List Value} {x : DataW H × List MemPlace}
theorem rd_bed (h : DataW.trod enc Tryd.prog w 0 sp held n 117 cs = some x) : ∃ s : Bed, cs = encBed s ∧ True := by
  have hl := rd_len Tryd.underlying117 h (k := 3) (by kernel_rfl)
  obtain ⟨n0, y0, h0⟩ := rd_field Tryd.underlying117 h (j := 0) rfl rfl (k := 2) (by kernel_rfl)
  obtain ⟨n1, y1, h1⟩ := rd_field Tryd.underlying117 h (j := 1) rfl rfl (k := 1) (by kernel_rfl)
  obtain ⟨a, e0, f0⟩ := rd_sp h0
  obtain ⟨b, e1, f1⟩ := rd_int Tryd.underlying3 h1
  match cs, hl with
  | [c0, c1, c2], _ =>
    simp [encSp] at e0 e1
    exact ⟨⟨a, b⟩, by simp [encBed, e0, e1], trivial⟩
theorem rd_hour (h : DataW.trod enc Tryd.prog w 0 sp held n 120 cs = some x) : ∃ s : Hour, cs = encHour s ∧ True := by
  have hl := rd_len Tryd.underlying120 h (k := 5) (by kernel_rfl)
  obtain ⟨n0, y0, h0⟩ := rd_field Tryd.underlying120 h (j := 0) rfl rfl (k := 2) (by kernel_rfl)
  obtain ⟨n1, y1, h1⟩ := rd_field Tryd.underlying120 h (j := 1) rfl rfl (k := 1) (by kernel_rfl)
  obtain ⟨n2, y2, h2⟩ := rd_field Tryd.underlying120 h (j := 2) rfl rfl (k := 1) (by kernel_rfl)
  obtain ⟨n3, y3, h3⟩ := rd_field Tryd.underlying120 h (j := 3) rfl rfl (k := 1) (by kernel_rfl)
  obtain ⟨a, e0, f0⟩ := rd_sp h0
  obtain ⟨b, e1, f1⟩ := rd_int Tryd.underlying3 h1
  obtain ⟨c, e2, f2⟩ := rd_int Tryd.underlying3 h2
  obtain ⟨d, e3, _⟩ := DataW.trod_bool Tryd.underlying4 h3
  match cs, hl with
  | [c0, c1, c2, c3, c4], _ =>
    simp [encSp] at e0 e1 e2 e3
    exact ⟨⟨a, b, c, d⟩, by simp [encHour, e0, e1, e2, e3], trivial⟩
set_option maxRecDepth 20000 in
/-- an argument that is a cover -/
theorem open_cov {base : Nat} {r : Reach} {v : Value} {dd : DataW H} {p : List MemPlace} (hv : Value.okWide Tryd.prog w r base 30 v) (h : DataW.Trod enc Tryd.prog w 0 (fun _ => true) held 30 v dd p) :
    ∃ (c : Cov) (A : Option Addr) (ca : Nat) (B : Option Addr) (cb : Nat) (C : Option Addr) (cc : Nat), v = vCov c A ca B cb C cc ∧ CovAt w c A B C ∧ FitT c.t := by
  obtain ⟨cs, rfl, _⟩ := okWide_struct Tryd.underlying30 hv
  obtain ⟨fuel, hf⟩ := h
  have hl := rd_len Tryd.underlying30 hf (k := 10) (by kernel_rfl)
  obtain ⟨n0, y0, h0⟩ := rd_field Tryd.underlying30 hf (j := 0) rfl rfl (k := 1) (by kernel_rfl)
  obtain ⟨n1, y1, h1⟩ := rd_field Tryd.underlying30 hf (j := 1) rfl rfl (k := 1) (by kernel_rfl)
  obtain ⟨n2, y2, h2⟩ := rd_field Tryd.underlying30 hf (j := 2) rfl rfl (k := 1) (by kernel_rfl)
  obtain ⟨n3, y3, h3⟩ := rd_field Tryd.underlying30 hf (j := 3) rfl rfl (k := 2) (by kernel_rfl)
  obtain ⟨n4, y4, h4⟩ := rd_field Tryd.underlying30 hf (j := 4) rfl rfl (k := 2) (by kernel_rfl)
  obtain ⟨n5, y5, h5⟩ := rd_field Tryd.underlying30 hf (j := 5) rfl rfl (k := 1) (by kernel_rfl)
  obtain ⟨n6, y6, h6⟩ := rd_field Tryd.underlying30 hf (j := 6) rfl rfl (k := 1) (by kernel_rfl)
  obtain ⟨n7, y7, h7⟩ := rd_field Tryd.underlying30 hf (j := 7) rfl rfl (k := 1) (by kernel_rfl)
  obtain ⟨n8, y8, h8⟩ := rd_field Tryd.underlying24 h0 (j := 0) rfl rfl (k := 1) (by kernel_rfl)
  obtain ⟨A, t, ca, e0, s0, f0, _, _⟩ := rd_slice (en := encSt) (k := 9) (ok := FitSt) Tryd.underlying22 (by kernel_rfl) (by omega) (fun _ => rfl) (fun _ _ _ h => rd_st h) h8
  obtain ⟨B, be, cb, e1, s1, _, _, _⟩ := rd_slice (en := encBed) (k := 3) (ok := fun _ => True) Tryd.underlying25 (by kernel_rfl) (by omega) (fun _ => rfl) (fun _ _ _ h => rd_bed h) h1
  obtain ⟨C, ho, cc, e2, s2, _, _, _⟩ := rd_slice (en := encHour) (k := 5) (ok := fun _ => True) Tryd.underlying26 (by kernel_rfl) (by omega) (fun _ => rfl) (fun _ _ _ h => rd_hour h) h2
  obtain ⟨we, e3, _⟩ := rd_sp h3
  obtain ⟨la, e4, _⟩ := rd_sp h4
  obtain ⟨ra, e5, _⟩ := rd_int Tryd.underlying3 h5
  obtain ⟨li, e6, _⟩ := rd_int Tryd.underlying3 h6
  obtain ⟨ba, e7, _⟩ := rd_int Tryd.underlying3 h7
  refine ⟨⟨t, be, ho, we, la, ra, li, ba⟩, A, ca, B, cb, C, cc, ?_, ⟨s0, s1, s2⟩, fun s hs => (f0 s hs).2.2.2.2.1⟩
  obtain ⟨l⟩ := cs
  match l, hl with
  | [c0, c1, c2, c3, c4, c5, c6, c7, c8, c9], _ =>
    simp [Value.cells, encSp] at e0 e1 e2 e3 e4 e5 e6 e7
    simp [vCov, cellsCov, e0, e1, e2, e3, e4, e5, e6, e7]
end
theorem gLimits : Tryd.prog.globalNamed "kreisel/ice.limits" = some 0 := by kernel_rfl
theorem tLimits : (Tryd.prog.globals[0]?).map (·.type) = some 193 := by kernel_rfl
set_option maxRecDepth 100000 in
/-- what the table holds -/
theorem of_limits {W : World} (h : laidMetH Tryd.prog [("kreisel/ice.limits", Rows.laid_kreisel_ice_limits)] W) : InC W 0 0 limC := by
  obtain ⟨g, t, cs, fuel, p, hg, ht, hv, hd⟩ := h.funcs (List.mem_singleton.2 rfl)
  obtain rfl := Option.some.inj (gLimits.symm.trans hg)
  obtain rfl := Option.some.inj (tLimits.symm.trans ht)
  have hd' : DataW.trod (funcToken Tryd.prog) Tryd.prog W 0 (fun _ => true) true fuel 193 cs.toList = some (.agg [.agg [.held [107, 114, 101, 105, 115, 101, 108, 47, 105, 99, 101, 46, 108, 105, 109, 105, 116, 115, 36, 49], .held [107, 114, 101, 105, 115, 101, 108, 47, 105, 99, 101, 46, 108, 105, 109, 105, 116, 115, 36, 50]], .agg [.held [107, 114, 101, 105, 115, 101, 108, 47, 105, 99, 101, 46, 108, 105, 109, 105, 116, 115, 36, 51], .held [107, 114, 101, 105, 115, 101, 108, 47, 105, 99, 101, 46, 108, 105, 109, 105, 116, 115, 36, 52]]], p) := hd
  have c192 : Tryd.prog.cellsOf 192 = 2 := by kernel_rfl
  have c193 : Tryd.prog.cellsOf 193 = 4 := by kernel_rfl
  have c142 : Tryd.prog.cellsOf 142 = 1 := by kernel_rfl
  have c68 : Tryd.prog.cellsOf 68 = 1 := by kernel_rfl
  obtain ⟨xs, m, rfl, ex, hlen, hl, hel⟩ := DataW.trod_array Tryd.underlying193 hd'
  rw [c193] at hlen
  have hcell := fun j => World.var?_cell hg hv j
  obtain ⟨l⟩ := cs
  simp only at hlen hel
  match xs, hl with
  | [x0, x1], _ =>
    match l, hlen with
    | [a0, a1, a2, a3], _ =>
      have h0 := hel 0 (by omega)
      have h1 := hel 1 (by omega)
      rw [c192] at h0 h1
      simp only [Nat.zero_mul, Nat.one_mul, List.drop_zero, List.take_succ_cons, List.take_zero, List.drop_succ_cons, List.getElem?_cons_zero, List.getElem?_cons_succ] at h0 h1
      simp only [List.map_cons, List.map_nil, Prod.mk.injEq, DataW.agg.injEq, List.cons.injEq, and_true] at ex
      obtain ⟨⟨e0, e1⟩, _⟩ := ex
      obtain ⟨x0a, x0b⟩ := x0
      obtain ⟨x1a, x1b⟩ := x1
      simp only at e0 e1
      subst e0 e1
      obtain ⟨ys, n0, _, ey, _, hy, hf⟩ := DataW.trod_struct Tryd.underlying192 h0
      obtain ⟨zs, n1, _, ez, _, hz, hk⟩ := DataW.trod_struct Tryd.underlying192 h1
      match ys, hy, zs, hz with
      | [y0, y1], _, [z0, z1], _ =>
        have f0 := hf 0 _ rfl
        have f1 := hf 1 _ rfl
        have k0 := hk 0 _ rfl
        have k1 := hk 1 _ rfl
        simp only [c142, c68, List.drop_zero, List.take_succ_cons, List.take_zero, List.drop_succ_cons, List.getElem?_cons_zero, List.getElem?_cons_succ] at f0 f1 k0 k1
        simp only [List.map_cons, List.map_nil, Prod.mk.injEq, DataW.agg.injEq, List.cons.injEq, and_true] at ey ez
        obtain ⟨⟨ey0, ey1⟩, _⟩ := ey
        obtain ⟨⟨ez0, ez1⟩, _⟩ := ez
        obtain ⟨y0a, y0b⟩ := y0
        obtain ⟨y1a, y1b⟩ := y1
        obtain ⟨z0a, z0b⟩ := z0
        obtain ⟨z1a, z1b⟩ := z1
        simp only at ey0 ey1 ez0 ez1
        subst ey0 ey1 ez0 ez1
        obtain rfl := func_of_trod (f0 := 164) Tryd.underlying142 (by kernel_rfl) f0
        obtain rfl := func_of_trod (f0 := 165) Tryd.underlying68 (by kernel_rfl) f1
        obtain rfl := func_of_trod (f0 := 166) Tryd.underlying142 (by kernel_rfl) k0
        obtain rfl := func_of_trod (f0 := 167) Tryd.underlying68 (by kernel_rfl) k1
        refine ⟨fun j v hj => ?_⟩
        rw [Nat.zero_add, hcell j]
        simpa [limC] using hj
end Go.Proofs.YtdigopgncfhiaaaDoor
