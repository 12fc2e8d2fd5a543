/- What lies between two marks: drop of the reference. -/
import Derived.Test.YtdigopgncfhiaaaDoorCheck
import Derived.Test.YtdigopgncfhiaaaDoorCheckR
import Derived.Test.YtdigopgncfhiaaaDoorBase
namespace Go.Proofs.YtdigopgncfhiaaaDoor
set_option linter.unusedVariables false
open Go.RowKit
set_option linter.unusedSimpArgs false

theorem extract_one {α : Type} (l : List α) (i j : Nat) (hi : i < j) (hj : j ≤ l.length) : l.extract i j = l[i]'(by omega) :: l.extract (i + 1) j := by
  simp only [List.extract_eq_take_drop]
  rw [List.drop_eq_getElem_cons (by omega : i < l.length), show j - i = (j - (i + 1)) + 1 by omega, List.take_succ_cons]
theorem extract_snoc {α : Type} (l : List α) (i j : Nat) (hi : i ≤ j) (hj : j < l.length) : l.extract i (j + 1) = l.extract i j ++ [l[j]] := by
  simp only [List.extract_eq_take_drop]
  rw [show j + 1 - i = (j - i) + 1 by omega, List.take_succ_eq_append_getElem (by simp; omega)]
  simp [show i + (j - i) = j by omega]
theorem sumSp_snoc (l : List Sp) (x : Sp) : sumSp (l ++ [x]) = addSp (sumSp l) x := by simp [sumSp]
theorem longBetween_succ {t : List St} {i j : Nat} (hi : i ≤ j) (hj : j < t.length) : longBetween t i (j + 1) = addSp (longBetween t i j) t[j].long := by
  unfold longBetween
  rw [extract_snoc _ _ _ hi (by simpa [longs] using hj), sumSp_snoc]; simp [longs]
theorem fallBetween_succ {t : List St} {i j : Nat} (hi : i ≤ j) (hj : j < t.length) : fallBetween t i (j + 1) = addSp (fallBetween t i j) t[j].fall := by
  unfold fallBetween
  rw [extract_snoc _ _ _ hi (by simpa [falls] using hj), sumSp_snoc]; simp [falls]
theorem longBetween_self (t : List St) (i : Nat) : longBetween t i i = ⟨0, 0⟩ := by simp [longBetween, sumSp, List.extract_eq_take_drop]
theorem fallBetween_self (t : List St) (i : Nat) : fallBetween t i i = ⟨0, 0⟩ := by simp [fallBetween, sumSp, List.extract_eq_take_drop]

/-- sums stay small -/
theorem between_bd {t : List St} (h : ∀ s ∈ t, Okay s) : ∀ {i j : Nat}, i ≤ j → j ≤ t.length →
    0 ≤ (longBetween t i j).lo ∧ (longBetween t i j).lo ≤ (longBetween t i j).hi ∧ (longBetween t i j).hi ≤ 30000 * (j - i : Int) ∧
    0 ≤ (fallBetween t i j).lo ∧ (fallBetween t i j).lo ≤ (fallBetween t i j).hi ∧ (fallBetween t i j).hi ≤ 5000 * (j - i : Int) := by
  intro i j hij
  induction j with
  | zero => intro _; obtain rfl : i = 0 := by omega
            simp [longBetween_self, fallBetween_self]
  | succ j ih =>
    intro hj
    by_cases hji : i = j + 1
    · subst hji; simp [longBetween_self, fallBetween_self]
    · have := ih (by omega) (by omega)
      have ho := h t[j] (List.getElem_mem (by omega))
      rw [longBetween_succ (by omega) (by omega), fallBetween_succ (by omega) (by omega)]
      have := ho.l0; have := ho.l1; have := ho.l2; have := ho.f0; have := ho.f1; have := ho.f2
      simp only [addSp]
      omega

set_option maxHeartbeats 4000000 in
theorem rdrop_any (t : List St) (A : Option Addr) (cap : Nat) (i j : Nat) (w : World) (ht : SlAt encSt 9 w A t) (ho : ∀ s ∈ t, Okay s) (hij : i ≤ j) (hj : j ≤ t.length) (hl : t.length ≤ 1000) :
    Gives 125 #[vT A t.length cap, .int .i64 i, .int .i64 j] w (.tuple #[vSp (longBetween t i j), vSp (fallBetween t i j)]) := by
  unfold Gives vT vSp
  have HT := Lib.hid ht
  clear ht
  go_enter Tryd.func125, Tryd.ntmps125
  go_wp2
  go_loopw [10] (fun v wr => ∃ (k : Nat), i ≤ k ∧ k ≤ j ∧ v = .int .i64 k ∧ Blk wr w.heap.size #[.slice A t.length cap] ∧ Blk wr (w.heap.size + 1) #[.int .i64 0, .int .i64 0] ∧ Blk wr (w.heap.size + 2) #[.int .i64 0, .int .i64 0]
     ∧ Blk wr (w.heap.size + 3) #[.int .i64 (longBetween t i k).lo, .int .i64 (longBetween t i k).hi] ∧ Blk wr (w.heap.size + 4) #[.int .i64 (fallBetween t i k).lo, .int .i64 (fallBetween t i k).hi] ∧ Below w.heap.size w wr) (fun v _ => j - (intOf v).toNat)
  case atStart =>
    refine ⟨i, Nat.le_refl _, hij, rfl, ((((Blk.new _ _ _).alloc _).alloc _).alloc _).alloc _, (((Blk.new' (by simp)).alloc _).alloc _).alloc _, ((Blk.new' (by simp)).alloc _).alloc _, Blk.cast ((Blk.new' (by simp)).alloc _) (by simp [longBetween_self]), Blk.cast (Blk.new' (by simp)) (by simp [fallBetween_self]), bx_alloc (bx_alloc (bx_alloc (bx_alloc (below_alloc _ _) _) _) _) _⟩
  case round =>
    obtain ⟨k, hk1, hk2, rfl, k0, k1, k2, k3, k4, hB⟩ := hrel
    obtain ⟨c0, f0, l0⟩ := k0.facts
    obtain ⟨c1, f1, l1⟩ := k1.facts
    obtain ⟨c2, f2, l2⟩ := k2.facts
    obtain ⟨c3, f3, l3⟩ := k3.facts
    obtain ⟨c4, f4, l4⟩ := k4.facts
    by_cases hlt : k < j
    · obtain ⟨b, o, rfl, hblt, hc⟩ := (HT.out.below hB).at_ (show k < t.length by omega)
      have bd := between_bd ho hk1 (show k ≤ t.length by omega)
      have hl1 := Lib.hid (longBetween_succ hk1 (show k < t.length by omega))
      have hf1 := Lib.hid (fallBetween_succ hk1 (show k < t.length by omega))
      have hok := ho t[k] (List.getElem_mem (show k < t.length by omega))
      generalize t[k] = s at hc hl1 hf1 hok
      generalize longBetween t i k = p at *
      generalize fallBetween t i k = q at *
      obtain ⟨q1, q2, q3, q4, q5, q6⟩ := bd
      have := hok.l0; have := hok.l1; have := hok.l2; have := hok.f0; have := hok.f1; have := hok.f2
      have e0 := hc 0 _ rfl
      have e1 := hc 1 _ rfl
      have e2 := hc 2 _ rfl
      have e3 := hc 3 _ rfl
      have e4 := hc 4 _ rfl
      have e5 := hc 5 _ rfl
      have e6 := hc 6 _ rfl
      have e7 := hc 7 _ rfl
      have e8 := hc 8 _ rfl
      simp only [Nat.add_zero] at e0
      clear hc
      have hi0 : (0:Int) ≤ k := by omega
      have hi1 : (k:Int) < t.length := by omega
      have hkj : (k:Int) < j := by omega
      go_wp2
      go_roundw
      case rel =>
        go_light
        refine ⟨k + 1, by omega, by omega, by go_num, ?_, ?_, ?_, ?_, ?_, ?_⟩
        · (refine blkE ?_; repeat (first | (with_reducible refine BlkE.new_ (by first | (simp; done) | (simp; omega) | omega) ?_; (first | rfl | (simp; done))) | (with_reducible refine BlkE.alloc ?_ _) | (with_reducible refine BlkE.far ?_ _ (by first | (simp; done) | (simp; omega) | omega)) | (with_reducible refine BlkE.set_ ?_ (by first | (simp; done) | (simp; omega) | omega)) | (with_reducible refine BlkE.drew ?_) | (with_reducible refine BlkE.drewN ?_ _) | (refine BlkE.leaf (by assumption) ?_; (first | rfl | (simp; done)))))
        · (refine blkE ?_; repeat (first | (with_reducible refine BlkE.new_ (by first | (simp; done) | (simp; omega) | omega) ?_; (first | rfl | (simp; done))) | (with_reducible refine BlkE.alloc ?_ _) | (with_reducible refine BlkE.far ?_ _ (by first | (simp; done) | (simp; omega) | omega)) | (with_reducible refine BlkE.set_ ?_ (by first | (simp; done) | (simp; omega) | omega)) | (with_reducible refine BlkE.drew ?_) | (with_reducible refine BlkE.drewN ?_ _) | (refine BlkE.leaf (by assumption) ?_; (first | rfl | (simp; done)))))
        · (refine blkE ?_; repeat (first | (with_reducible refine BlkE.new_ (by first | (simp; done) | (simp; omega) | omega) ?_; (first | rfl | (simp; done))) | (with_reducible refine BlkE.alloc ?_ _) | (with_reducible refine BlkE.far ?_ _ (by first | (simp; done) | (simp; omega) | omega)) | (with_reducible refine BlkE.set_ ?_ (by first | (simp; done) | (simp; omega) | omega)) | (with_reducible refine BlkE.drew ?_) | (with_reducible refine BlkE.drewN ?_ _) | (refine BlkE.leaf (by assumption) ?_; (first | rfl | (simp; done)))))
        · rw [hl1.out]; (refine blkE ?_; repeat (first | (with_reducible refine BlkE.new_ (by first | (simp; done) | (simp; omega) | omega) ?_; (first | rfl | (simp [addSp]; done))) | (with_reducible refine BlkE.alloc ?_ _) | (with_reducible refine BlkE.far ?_ _ (by first | (simp; done) | (simp; omega) | omega)) | (with_reducible refine BlkE.set_ ?_ (by first | (simp; done) | (simp; omega) | omega)) | (with_reducible refine BlkE.drew ?_) | (with_reducible refine BlkE.drewN ?_ _) | (refine BlkE.leaf (by assumption) ?_; (first | rfl | (simp [addSp]; done)))))
        · rw [hf1.out]; (refine blkE ?_; repeat (first | (with_reducible refine BlkE.new_ (by first | (simp; done) | (simp; omega) | omega) ?_; (first | rfl | (simp [addSp]; done))) | (with_reducible refine BlkE.alloc ?_ _) | (with_reducible refine BlkE.far ?_ _ (by first | (simp; done) | (simp; omega) | omega)) | (with_reducible refine BlkE.set_ ?_ (by first | (simp; done) | (simp; omega) | omega)) | (with_reducible refine BlkE.drew ?_) | (with_reducible refine BlkE.drewN ?_ _) | (refine BlkE.leaf (by assumption) ?_; (first | rfl | (simp [addSp]; done)))))
        · (repeat (first | (with_reducible refine bx_alloc ?_ _) | (with_reducible refine below_setCell ?_ (by first | (simp; done) | (simp; omega) | omega)) | (with_reducible refine below_drew ?_) | (with_reducible refine below_drewN ?_ _) | (with_reducible assumption) | (with_reducible exact Below.refl _ _)))
      case measure => simp [intOf]; omega
    · obtain rfl : k = j := by omega
      go_wp2
      go_region
      all_goals go_wp2
      refine bodyPost_ret (results_sp2 (x := .int .i64 (longBetween t i k).lo) (y := .int .i64 (longBetween t i k).hi) (x' := .int .i64 (fallBetween t i k).lo) (y' := .int .i64 (fallBetween t i k).hi) rfl rfl ?_ rfl ?_) rfl ⟨rfl, ?_⟩
      · (refine blkE ?_; repeat (first | (with_reducible refine BlkE.new_ (by first | (simp; done) | (simp; omega) | omega) ?_; (first | rfl | (simp; done))) | (with_reducible refine BlkE.alloc ?_ _) | (with_reducible refine BlkE.far ?_ _ (by first | (simp; done) | (simp; omega) | omega)) | (with_reducible refine BlkE.set_ ?_ (by first | (simp; done) | (simp; omega) | omega)) | (with_reducible refine BlkE.drew ?_) | (with_reducible refine BlkE.drewN ?_ _) | (refine BlkE.leaf (by assumption) ?_; (first | rfl | (simp; done)))))
      · (refine blkE ?_; repeat (first | (with_reducible refine BlkE.new_ (by first | (simp; done) | (simp; omega) | omega) ?_; (first | rfl | (simp; done))) | (with_reducible refine BlkE.alloc ?_ _) | (with_reducible refine BlkE.far ?_ _ (by first | (simp; done) | (simp; omega) | omega)) | (with_reducible refine BlkE.set_ ?_ (by first | (simp; done) | (simp; omega) | omega)) | (with_reducible refine BlkE.drew ?_) | (with_reducible refine BlkE.drewN ?_ _) | (refine BlkE.leaf (by assumption) ?_; (first | rfl | (simp; done)))))
      · (repeat (first | (with_reducible refine bx_alloc ?_ _) | (with_reducible refine below_setCell ?_ (by first | (simp; done) | (simp; omega) | omega)) | (with_reducible refine below_drew ?_) | (with_reducible refine below_drewN ?_ _) | (with_reducible assumption) | (with_reducible exact Below.refl _ _)))
end Go.Proofs.YtdigopgncfhiaaaDoor
