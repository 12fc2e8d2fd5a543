/- Comparisons of lists: SameSpans, SameInts, Same of the reference return whether the lists are equal. -/
import Derived.Test.YtdigopgncfhiaaaDoorEqs
namespace Go.Proofs.YtdigopgncfhiaaaDoor
set_option linter.unusedVariables false
set_option linter.unusedSimpArgs false
open Go.RowKit

theorem take_eq_full {α : Type} {a b : List α} {i : Nat} (h : a.take i = b.take i) (hl : a.length = b.length) (hi : a.length ≤ i) : a = b := by
  rwa [List.take_of_length_le hi, List.take_of_length_le (by omega)] at h
theorem take_eq_succ {α : Type} {a b : List α} {i : Nat} (h : a.take i = b.take i) (ha : i < a.length) (hb : i < b.length) (he : a[i] = b[i]) : a.take (i + 1) = b.take (i + 1) := by
  rw [List.take_succ_eq_append_getElem ha, List.take_succ_eq_append_getElem hb, h, he]
theorem ne_of_getElem {α : Type} {a b : List α} {i : Nat} (ha : i < a.length) (hb : i < b.length) (he : a[i] ≠ b[i]) : a ≠ b := by
  rintro rfl; exact he rfl

end Go.Proofs.YtdigopgncfhiaaaDoor
/- Same: two tracks. -/
namespace Go.Proofs.YtdigopgncfhiaaaDoor
set_option linter.unusedVariables false
open Go.RowKit
set_option linter.unusedSimpArgs false
set_option maxRecDepth 20000

set_option maxHeartbeats 1000000 in
theorem same_ints (a b : List Int) (A B : Option Addr) (c d : Nat) (w : World) (ha : SlAt encI 1 w A a) (hb : SlAt encI 1 w B b) (hla : a.length ≤ 1000000) (hlb : b.length ≤ 1000000) :
    Gives 61 #[.slice A a.length c, .slice B b.length d] w (.bool (decide (a = b))) := by
  unfold Gives
  have HA := Lib.hid ha
  have HB := Lib.hid hb
  clear ha hb
  by_cases hl : a.length = b.length
  · have hL := Lib.hid hl
    have hlt0 : b.length ≤ a.length := by omega
    have hlt1 : a.length ≤ b.length := by omega
    clear hl
    go_enter Tryd.func61, Tryd.ntmps61
    go_wp2
    go_loopw [5] (fun v wr => ∃ i : Nat, i ≤ a.length ∧ v = .int .i64 i ∧ Below w.heap.size w wr ∧ Hid (a.take i = b.take i)) (fun v _ => a.length - (intOf v).toNat)
    case atStart => exact ⟨0, Nat.zero_le _, rfl, Below.refl _ _, by unfold Hid; simp⟩
    case round =>
      obtain ⟨i, hi, rfl, hBw, hF⟩ := hrel
      by_cases hlt : i < a.length
      · have hltb : i < b.length := by omega
        obtain ⟨b1, o1, rfl, hb1, hc1⟩ := (HA.out.below hBw).at_ hlt
        obtain ⟨b2, o2, rfl, hb2, hc2⟩ := (HB.out.below hBw).at_ hltb
        have c1 := hc1 0 _ rfl
        have c3 := hc2 0 _ rfl
        simp only [Nat.add_zero, Nat.mul_one] at c1 c3
        clear hc1 hc2
        have hi0 : (0:Int) ≤ i := by omega
        have hi1 : (i:Int) < a.length := by omega
        have hi2 : (i:Int) < b.length := by omega
        by_cases he : a[i] = b[i]
        · have hq : a[i] = b[i] := he
          have HE := Lib.hid he
          clear he
          go_wp2_with fail
          go_quiet (fail)
          go_wp2
          go_roundw
          case rel => exact ⟨i + 1, by omega, by go_num, below_drewN hBw _, take_eq_succ hF.out hlt hltb HE.out⟩
          case measure => simp [intOf]; omega
        · have hq : ¬ a[i] = b[i] := he
          have HE := Lib.hid he
          clear he
          go_wp2_with fail
          go_quiet (fail)
          go_wp2
          go_ret
          exact ⟨ret_of (by simp [ne_of_getElem hlt hltb HE.out]), below_drewN hBw _⟩
      · go_wp2
        go_ret
        exact ⟨ret_of (by rw [take_eq_full hF.out hL.out (by omega)]; simp), hBw⟩
  · go_enter Tryd.func61, Tryd.ntmps61
    go_wp2
    go_ret
    exact ⟨ret_of (by simp; rintro rfl; exact hl rfl), Below.refl _ _⟩
open Go.RowKit
set_option linter.unusedSimpArgs false
set_option maxRecDepth 20000

set_option maxHeartbeats 4000000 in
theorem same_any (a b : List St) (A B : Option Addr) (c d : Nat) (w : World) (ha : SlAt encSt 9 w A a) (hb : SlAt encSt 9 w B b) (hla : a.length ≤ 1000000) (hlb : b.length ≤ 1000000) :
    Gives 62 #[vT A a.length c, vT B b.length d] w (.bool (decide (a = b))) := by
  unfold Gives vT
  have HA := Lib.hid ha
  have HB := Lib.hid hb
  clear ha hb
  by_cases hl : a.length = b.length
  · have hL := Lib.hid hl
    have hlt0 : b.length ≤ a.length := by omega
    have hlt1 : a.length ≤ b.length := by omega
    clear hl
    go_enter Tryd.func62, Tryd.ntmps62
    go_wp2
    go_loopw [5] (fun v wr => ∃ i : Nat, i ≤ a.length ∧ v = .int .i64 i ∧ Blk wr w.heap.size #[.slice A a.length c] ∧ Blk wr (w.heap.size + 1) #[.slice B b.length d] ∧ Below w.heap.size w wr ∧ Hid (a.take i = b.take i)) (fun v _ => a.length - (intOf v).toNat)
    case atStart => exact ⟨0, Nat.zero_le _, rfl, (by (refine blkE ?_; repeat (first | (with_reducible refine BlkE.new_ (by first | (simp; done) | (simp; omega) | omega) ?_; (first | rfl | (simp; done))) | (with_reducible refine BlkE.alloc ?_ _) | (with_reducible refine BlkE.far ?_ _ (by first | (simp; done) | (simp; omega) | omega)) | (with_reducible refine BlkE.set_ ?_ (by first | (simp; done) | (simp; omega) | omega)) | (with_reducible refine BlkE.drew ?_) | (with_reducible refine BlkE.drewN ?_ _) | (refine BlkE.leaf (by assumption) ?_; (first | rfl | (simp; done)))))), (by (refine blkE ?_; repeat (first | (with_reducible refine BlkE.new_ (by first | (simp; done) | (simp; omega) | omega) ?_; (first | rfl | (simp; done))) | (with_reducible refine BlkE.alloc ?_ _) | (with_reducible refine BlkE.far ?_ _ (by first | (simp; done) | (simp; omega) | omega)) | (with_reducible refine BlkE.set_ ?_ (by first | (simp; done) | (simp; omega) | omega)) | (with_reducible refine BlkE.drew ?_) | (with_reducible refine BlkE.drewN ?_ _) | (refine BlkE.leaf (by assumption) ?_; (first | rfl | (simp; done)))))), (by (repeat (first | (with_reducible refine bx_alloc ?_ _) | (with_reducible refine below_setCell ?_ (by first | (simp; done) | (simp; omega) | omega)) | (with_reducible refine below_drew ?_) | (with_reducible refine below_drewN ?_ _) | (with_reducible assumption) | (with_reducible exact Below.refl _ _)))), by unfold Hid; simp⟩
    case round =>
      obtain ⟨i, hi, rfl, k0, k1, hBw, hF⟩ := hrel
      obtain ⟨x0, f0, l0⟩ := k0.facts
      obtain ⟨x1, f1, l1⟩ := k1.facts
      by_cases hlt : i < a.length
      · have hltb : i < b.length := by omega
        obtain ⟨b1, o1, rfl, hb1, hc1⟩ := (HA.out.below hBw).at_ hlt
        obtain ⟨b2, o2, rfl, hb2, hc2⟩ := (HB.out.below hBw).at_ hltb
        have e0 := hc1 0 _ rfl
        have e1 := hc1 1 _ rfl
        have e2 := hc1 2 _ rfl
        have e3 := hc1 3 _ rfl
        have e4 := hc1 4 _ rfl
        have e5 := hc1 5 _ rfl
        have e6 := hc1 6 _ rfl
        have e7 := hc1 7 _ rfl
        have e8 := hc1 8 _ rfl
        have g0 := hc2 0 _ rfl
        have g1 := hc2 1 _ rfl
        have g2 := hc2 2 _ rfl
        have g3 := hc2 3 _ rfl
        have g4 := hc2 4 _ rfl
        have g5 := hc2 5 _ rfl
        have g6 := hc2 6 _ rfl
        have g7 := hc2 7 _ rfl
        have g8 := hc2 8 _ rfl
        simp only [Nat.add_zero] at e0 g0
        clear hc1 hc2
        have hi0 : (0:Int) ≤ i := by omega
        have hi1 : (i:Int) < a.length := by omega
        have hi2 : (i:Int) < b.length := by omega
        have hq : eqSt ⟨a[i].id, ⟨a[i].long.lo, a[i].long.hi⟩, ⟨a[i].fall.lo, a[i].fall.hi⟩, ⟨a[i].radius.lo, a[i].radius.hi⟩, a[i].side, a[i].wall⟩ ⟨b[i].id, ⟨b[i].long.lo, b[i].long.hi⟩, ⟨b[i].fall.lo, b[i].fall.hi⟩, ⟨b[i].radius.lo, b[i].radius.hi⟩, b[i].side, b[i].wall⟩ = decide (a[i] = b[i]) := by unfold eqSt; rfl
        by_cases he : a[i] = b[i]
        · rw [decide_eq_true he] at hq
          have HE := Lib.hid he
          clear he
          go_wp2_with fail
          go_quiet (fail)
          go_wp2
          go_roundw
          case rel => exact ⟨i + 1, by omega, by go_num, (by (refine blkE ?_; repeat (first | (with_reducible refine BlkE.new_ (by first | (simp; done) | (simp; omega) | omega) ?_; (first | rfl | (simp; done))) | (with_reducible refine BlkE.alloc ?_ _) | (with_reducible refine BlkE.far ?_ _ (by first | (simp; done) | (simp; omega) | omega)) | (with_reducible refine BlkE.set_ ?_ (by first | (simp; done) | (simp; omega) | omega)) | (with_reducible refine BlkE.drew ?_) | (with_reducible refine BlkE.drewN ?_ _) | (refine BlkE.leaf (by assumption) ?_; (first | rfl | (simp; done)))))), (by (refine blkE ?_; repeat (first | (with_reducible refine BlkE.new_ (by first | (simp; done) | (simp; omega) | omega) ?_; (first | rfl | (simp; done))) | (with_reducible refine BlkE.alloc ?_ _) | (with_reducible refine BlkE.far ?_ _ (by first | (simp; done) | (simp; omega) | omega)) | (with_reducible refine BlkE.set_ ?_ (by first | (simp; done) | (simp; omega) | omega)) | (with_reducible refine BlkE.drew ?_) | (with_reducible refine BlkE.drewN ?_ _) | (refine BlkE.leaf (by assumption) ?_; (first | rfl | (simp; done)))))), below_drewN hBw _, take_eq_succ hF.out hlt hltb HE.out⟩
          case measure => simp [intOf]; omega
        · rw [decide_eq_false he] at hq
          have HE := Lib.hid he
          clear he
          go_wp2_with fail
          go_quiet (fail)
          go_wp2
          go_ret
          exact ⟨ret_of (by simp [ne_of_getElem hlt hltb HE.out]), below_drewN hBw _⟩
      · go_wp2
        go_ret
        exact ⟨ret_of (by rw [take_eq_full hF.out hL.out (by omega)]; simp), hBw⟩
  · go_enter Tryd.func62, Tryd.ntmps62
    go_wp2
    go_ret
    exact ⟨ret_of (by simp; rintro rfl; exact hl rfl), (by (repeat (first | (with_reducible refine bx_alloc ?_ _) | (with_reducible refine below_setCell ?_ (by first | (simp; done) | (simp; omega) | omega)) | (with_reducible refine below_drew ?_) | (with_reducible refine below_drewN ?_ _) | (with_reducible assumption) | (with_reducible exact Below.refl _ _))))⟩
end Go.Proofs.YtdigopgncfhiaaaDoor
