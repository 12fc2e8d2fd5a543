/- survey.drop, T.Drop, R1.Drop. -/
import Derived.Test.YtdigopgncfhiaaaDoorMarks
import Derived.Test.YtdigopgncfhiaaaDoorDrop
import Derived.RegionIn
namespace Go.Proofs.YtdigopgncfhiaaaDoor
set_option linter.unusedVariables false
open Go.RowKit
set_option linter.unusedSimpArgs false
set_option linter.unnecessarySimpa false
set_option maxRecDepth 20000
attribute [local go_sem] Oper.semAt_some

set_option maxHeartbeats 4000000 in
theorem vdrop_any (t : List St) (A : Option Addr) (cap i j : Nat) (w : World) (ht : SlAt encSt 9 w A t) (ho : ∀ s ∈ t, Okay s) (hij : i ≤ j) (hj : j ≤ t.length) (hl : t.length ≤ 100) :
    Gives 119 #[vT A t.length cap, .int .i64 i, .int .i64 j] w (.tuple #[vSp (longBetween t i j), vSp (fallBetween t i j)]) := by
  unfold Gives vT
  have HT := Lib.hid ht
  clear ht
  refine (callsIn_wide (n := 10)).1 ?_
  refine callsIn_of_wp_marks Tryd.func119 rfl trivial ?_ rfl
  refine wpIn_wide.2 ?_
  simp only [Tryd.ntmps119, List.size_toArray, List.length_cons, List.length_nil, Nat.reduceAdd, Nat.reduceSub, Array.replicate_succ, Array.replicate_zero, List.push_toArray, List.append_toArray, List.nil_append, List.cons_append]
  go_wp2_with (go_at_call 122; refine (vmarks_any _ _ _ _ _).mono ?_; rintro e w2 ⟨rfl, rfl⟩)
  generalize hW : (((((((w.alloc (.cells #[.slice A t.length cap] 186)).alloc (.cells #[.int .i64 i] 3)).alloc (.cells #[.int .i64 j] 3)).alloc (.cells #[.int .i64 0, .int .i64 0] 28)).alloc (.cells #[.int .i64 0, .int .i64 0] 28)).alloc (.cells #[.slice A t.length cap] 186)).alloc (.cells #[.int .i64 i] 3)) = W
  have z1 : Blk W (w.heap.size + 1) #[.int .i64 i] := by rw [← hW]; (refine blkE ?_; repeat (first | (with_reducible refine BlkE.new_ (by first | (simp; done) | (simp; omega) | omega) ?_; (first | rfl | (simp; done))) | (with_reducible refine BlkE.alloc ?_ _) | (with_reducible refine BlkE.far ?_ _ (by first | (simp; done) | (simp; omega) | omega)) | (with_reducible refine BlkE.set_ ?_ (by first | (simp; done) | (simp; omega) | omega)) | (with_reducible refine BlkE.drew ?_) | (with_reducible refine BlkE.drewN ?_ _) | (refine BlkE.leaf (by assumption) ?_; (first | rfl | (simp; done)))))
  have z2 : Blk W (w.heap.size + 2) #[.int .i64 j] := by rw [← hW]; (refine blkE ?_; repeat (first | (with_reducible refine BlkE.new_ (by first | (simp; done) | (simp; omega) | omega) ?_; (first | rfl | (simp; done))) | (with_reducible refine BlkE.alloc ?_ _) | (with_reducible refine BlkE.far ?_ _ (by first | (simp; done) | (simp; omega) | omega)) | (with_reducible refine BlkE.set_ ?_ (by first | (simp; done) | (simp; omega) | omega)) | (with_reducible refine BlkE.drew ?_) | (with_reducible refine BlkE.drewN ?_ _) | (refine BlkE.leaf (by assumption) ?_; (first | rfl | (simp; done)))))
  have z3 : Blk W (w.heap.size + 3) #[.int .i64 0, .int .i64 0] := by rw [← hW]; (refine blkE ?_; repeat (first | (with_reducible refine BlkE.new_ (by first | (simp; done) | (simp; omega) | omega) ?_; (first | rfl | (simp; done))) | (with_reducible refine BlkE.alloc ?_ _) | (with_reducible refine BlkE.far ?_ _ (by first | (simp; done) | (simp; omega) | omega)) | (with_reducible refine BlkE.set_ ?_ (by first | (simp; done) | (simp; omega) | omega)) | (with_reducible refine BlkE.drew ?_) | (with_reducible refine BlkE.drewN ?_ _) | (refine BlkE.leaf (by assumption) ?_; (first | rfl | (simp; done)))))
  have z4 : Blk W (w.heap.size + 4) #[.int .i64 0, .int .i64 0] := by rw [← hW]; (refine blkE ?_; repeat (first | (with_reducible refine BlkE.new_ (by first | (simp; done) | (simp; omega) | omega) ?_; (first | rfl | (simp; done))) | (with_reducible refine BlkE.alloc ?_ _) | (with_reducible refine BlkE.far ?_ _ (by first | (simp; done) | (simp; omega) | omega)) | (with_reducible refine BlkE.set_ ?_ (by first | (simp; done) | (simp; omega) | omega)) | (with_reducible refine BlkE.drew ?_) | (with_reducible refine BlkE.drewN ?_ _) | (refine BlkE.leaf (by assumption) ?_; (first | rfl | (simp; done)))))
  have z5 : Blk W (w.heap.size + 5) #[.slice A t.length cap] := by rw [← hW]; (refine blkE ?_; repeat (first | (with_reducible refine BlkE.new_ (by first | (simp; done) | (simp; omega) | omega) ?_; (first | rfl | (simp; done))) | (with_reducible refine BlkE.alloc ?_ _) | (with_reducible refine BlkE.far ?_ _ (by first | (simp; done) | (simp; omega) | omega)) | (with_reducible refine BlkE.set_ ?_ (by first | (simp; done) | (simp; omega) | omega)) | (with_reducible refine BlkE.drew ?_) | (with_reducible refine BlkE.drewN ?_ _) | (refine BlkE.leaf (by assumption) ?_; (first | rfl | (simp; done)))))
  have z6 : Blk W (w.heap.size + 6) #[.int .i64 i] := by rw [← hW]; (refine blkE ?_; repeat (first | (with_reducible refine BlkE.new_ (by first | (simp; done) | (simp; omega) | omega) ?_; (first | rfl | (simp; done))) | (with_reducible refine BlkE.alloc ?_ _) | (with_reducible refine BlkE.far ?_ _ (by first | (simp; done) | (simp; omega) | omega)) | (with_reducible refine BlkE.set_ ?_ (by first | (simp; done) | (simp; omega) | omega)) | (with_reducible refine BlkE.drew ?_) | (with_reducible refine BlkE.drewN ?_ _) | (refine BlkE.leaf (by assumption) ?_; (first | rfl | (simp; done)))))
  have hB : Below w.heap.size w W := by rw [← hW]; (repeat (first | (with_reducible refine bx_alloc ?_ _) | (with_reducible refine below_setCell ?_ (by first | (simp; done) | (simp; omega) | omega)) | (with_reducible refine below_drew ?_) | (with_reducible refine below_drewN ?_ _) | (with_reducible assumption) | (with_reducible exact Below.refl _ _)))
  have hs : W.heap.size = w.heap.size + 7 := by rw [← hW]; simp
  simp only [Nat.add_assoc, Nat.reduceAdd]
  refine (wpIn_wide (n := 10)).1 ?_
  refine range_law (gf := 129) (lb := #[.pointer (some ⟨w.heap.size + 6, 0, none⟩), .pointer (some ⟨w.heap.size + 5, 0, none⟩)]) rfl (enters Tryd.func129 rfl rfl) (marks1_iter t A cap i _ _ ho (by omega) hl) (fun _ => rfl)
      (fun k W' => i + k ≤ j ∧ Blk W' (w.heap.size + 1) #[.int .i64 (i + k : Nat)] ∧ Blk W' (w.heap.size + 2) #[.int .i64 j] ∧ (∃ x y, Blk W' (w.heap.size + 3) #[.int .i64 x, .int .i64 y]) ∧ (∃ x y, Blk W' (w.heap.size + 4) #[.int .i64 x, .int .i64 y]) ∧ Blk W' (w.heap.size + 5) #[.slice A t.length cap] ∧ Blk W' (w.heap.size + 6) #[.int .i64 i] ∧ Below w.heap.size w W')
      (fun c k W' => c = .exit 0 ∧ Blk W' (w.heap.size + 3) #[.int .i64 (longBetween t i j).lo, .int .i64 (longBetween t i j).hi] ∧ Blk W' (w.heap.size + 4) #[.int .i64 (fallBetween t i j).lo, .int .i64 (fallBetween t i j).hi] ∧ Below w.heap.size w W') ?_ ?_ ?_ ?_ ?_ ?_ ?_
  · rintro k W1 W2 ⟨hk, h1, h2, ⟨x, y, h3⟩, ⟨x', y', h4⟩, h5, h6, h7⟩ ho
    exact ⟨hk, h1.off ho (by omega), h2.off ho (by omega), ⟨x, y, h3.off ho (by omega)⟩, ⟨x', y', h4.off ho (by omega)⟩, h5.off ho (by omega), h6.off ho (by omega), below_offs h7 ho hB.size h7.size⟩
  · rintro c k W1 W2 ⟨rfl, h3, h4, h7⟩ ho
    exact ⟨rfl, h3.off ho (by omega), h4.off ho (by omega), below_offs h7 ho hB.size h7.size⟩
  · rintro k W' ⟨hk, h1, h2, h3, h4, h5, h6, h7⟩
    exact ⟨h6, h5, HT.out.below h7⟩
  · exact ⟨by omega, z1, z2, ⟨0, 0, z3⟩, ⟨0, 0, z4⟩, z5, z6, hB⟩
  · intro l k W' hk ⟨hkj, h1, h2, ⟨x, y, h3⟩, ⟨x', y', h4⟩, h5, h6, h7⟩ hsz K hK
    clear hW z1 z2 z3 z4 z5 z6 hB
    unfold vSp
    gi_wp2
    generalize hp : longBetween t i (i + k) = p
    generalize hq : fallBetween t i (i + k) = q
    refine hK _ _ ((on_alloc _ _ hsz).trans (on_alloc _ _ (by simp; omega))) (fun W2 ho2 => ?_)
    clear hK
    have hsz2 := ho2.size
    generalize hX : (W'.alloc (.cells #[.int .i64 p.lo, .int .i64 p.hi] 28)).alloc (.cells #[.int .i64 q.lo, .int .i64 q.hi] 28) = X at ho2 hsz2
    have y8 : Blk W2 W'.heap.size #[.int .i64 p.lo, .int .i64 p.hi] := Blk.off' (by rw [← hX]; (refine blkE ?_; repeat (first | (with_reducible refine BlkE.new_ (by first | (simp; done) | (simp; omega) | omega) ?_; (first | rfl | (simp; done))) | (with_reducible refine BlkE.alloc ?_ _) | (with_reducible refine BlkE.far ?_ _ (by first | (simp; done) | (simp; omega) | omega)) | (with_reducible refine BlkE.set_ ?_ (by first | (simp; done) | (simp; omega) | omega)) | (with_reducible refine BlkE.drew ?_) | (with_reducible refine BlkE.drewN ?_ _) | (refine BlkE.leaf (by assumption) ?_; (first | rfl | (simp; done)))))) ho2 (by omega)
    have y9 : Blk W2 (W'.heap.size + 1) #[.int .i64 q.lo, .int .i64 q.hi] := Blk.off' (by rw [← hX]; (refine blkE ?_; repeat (first | (with_reducible refine BlkE.new_ (by first | (simp; done) | (simp; omega) | omega) ?_; (first | rfl | (simp; done))) | (with_reducible refine BlkE.alloc ?_ _) | (with_reducible refine BlkE.far ?_ _ (by first | (simp; done) | (simp; omega) | omega)) | (with_reducible refine BlkE.set_ ?_ (by first | (simp; done) | (simp; omega) | omega)) | (with_reducible refine BlkE.drew ?_) | (with_reducible refine BlkE.drewN ?_ _) | (refine BlkE.leaf (by assumption) ?_; (first | rfl | (simp; done)))))) ho2 (by omega)
    have y1 : Blk W2 (w.heap.size + 1) #[.int .i64 (i + k : Nat)] := Blk.off (by rw [← hX]; (refine blkE ?_; repeat (first | (with_reducible refine BlkE.new_ (by first | (simp; done) | (simp; omega) | omega) ?_; (first | rfl | (simp; done))) | (with_reducible refine BlkE.alloc ?_ _) | (with_reducible refine BlkE.far ?_ _ (by first | (simp; done) | (simp; omega) | omega)) | (with_reducible refine BlkE.set_ ?_ (by first | (simp; done) | (simp; omega) | omega)) | (with_reducible refine BlkE.drew ?_) | (with_reducible refine BlkE.drewN ?_ _) | (refine BlkE.leaf (by assumption) ?_; (first | rfl | (simp; done)))))) ho2 (by omega)
    have y2 : Blk W2 (w.heap.size + 2) #[.int .i64 j] := Blk.off (by rw [← hX]; (refine blkE ?_; repeat (first | (with_reducible refine BlkE.new_ (by first | (simp; done) | (simp; omega) | omega) ?_; (first | rfl | (simp; done))) | (with_reducible refine BlkE.alloc ?_ _) | (with_reducible refine BlkE.far ?_ _ (by first | (simp; done) | (simp; omega) | omega)) | (with_reducible refine BlkE.set_ ?_ (by first | (simp; done) | (simp; omega) | omega)) | (with_reducible refine BlkE.drew ?_) | (with_reducible refine BlkE.drewN ?_ _) | (refine BlkE.leaf (by assumption) ?_; (first | rfl | (simp; done)))))) ho2 (by omega)
    have y3 : Blk W2 (w.heap.size + 3) #[.int .i64 x, .int .i64 y] := Blk.off (by rw [← hX]; (refine blkE ?_; repeat (first | (with_reducible refine BlkE.new_ (by first | (simp; done) | (simp; omega) | omega) ?_; (first | rfl | (simp; done))) | (with_reducible refine BlkE.alloc ?_ _) | (with_reducible refine BlkE.far ?_ _ (by first | (simp; done) | (simp; omega) | omega)) | (with_reducible refine BlkE.set_ ?_ (by first | (simp; done) | (simp; omega) | omega)) | (with_reducible refine BlkE.drew ?_) | (with_reducible refine BlkE.drewN ?_ _) | (refine BlkE.leaf (by assumption) ?_; (first | rfl | (simp; done)))))) ho2 (by omega)
    have y4 : Blk W2 (w.heap.size + 4) #[.int .i64 x', .int .i64 y'] := Blk.off (by rw [← hX]; (refine blkE ?_; repeat (first | (with_reducible refine BlkE.new_ (by first | (simp; done) | (simp; omega) | omega) ?_; (first | rfl | (simp; done))) | (with_reducible refine BlkE.alloc ?_ _) | (with_reducible refine BlkE.far ?_ _ (by first | (simp; done) | (simp; omega) | omega)) | (with_reducible refine BlkE.set_ ?_ (by first | (simp; done) | (simp; omega) | omega)) | (with_reducible refine BlkE.drew ?_) | (with_reducible refine BlkE.drewN ?_ _) | (refine BlkE.leaf (by assumption) ?_; (first | rfl | (simp; done)))))) ho2 (by omega)
    have y5 : Blk W2 (w.heap.size + 5) #[.slice A t.length cap] := Blk.off (by rw [← hX]; (refine blkE ?_; repeat (first | (with_reducible refine BlkE.new_ (by first | (simp; done) | (simp; omega) | omega) ?_; (first | rfl | (simp; done))) | (with_reducible refine BlkE.alloc ?_ _) | (with_reducible refine BlkE.far ?_ _ (by first | (simp; done) | (simp; omega) | omega)) | (with_reducible refine BlkE.set_ ?_ (by first | (simp; done) | (simp; omega) | omega)) | (with_reducible refine BlkE.drew ?_) | (with_reducible refine BlkE.drewN ?_ _) | (refine BlkE.leaf (by assumption) ?_; (first | rfl | (simp; done)))))) ho2 (by omega)
    have y6 : Blk W2 (w.heap.size + 6) #[.int .i64 i] := Blk.off (by rw [← hX]; (refine blkE ?_; repeat (first | (with_reducible refine BlkE.new_ (by first | (simp; done) | (simp; omega) | omega) ?_; (first | rfl | (simp; done))) | (with_reducible refine BlkE.alloc ?_ _) | (with_reducible refine BlkE.far ?_ _ (by first | (simp; done) | (simp; omega) | omega)) | (with_reducible refine BlkE.set_ ?_ (by first | (simp; done) | (simp; omega) | omega)) | (with_reducible refine BlkE.drew ?_) | (with_reducible refine BlkE.drewN ?_ _) | (refine BlkE.leaf (by assumption) ?_; (first | rfl | (simp; done)))))) ho2 (by omega)
    have y7 : Below w.heap.size w W2 := below_offs (by rw [← hX]; (repeat (first | (with_reducible refine bx_alloc ?_ _) | (with_reducible refine below_setCell ?_ (by first | (simp; done) | (simp; omega) | omega)) | (with_reducible refine below_drew ?_) | (with_reducible refine below_drewN ?_ _) | (with_reducible assumption) | (with_reducible exact Below.refl _ _)))) ho2 (by omega) (by rw [← hX]; simp; omega)
    have hXs : X.heap.size = W'.heap.size + 2 := by rw [← hX]; simp
    clear hX ho2 h1 h2 h3 h4 h5 h6 h7
    obtain ⟨c1, f1, l1⟩ := y1.facts
    obtain ⟨c2, f2, l2⟩ := y2.facts
    obtain ⟨c3, f3, l3⟩ := y3.facts
    obtain ⟨c4, f4, l4⟩ := y4.facts
    obtain ⟨c8, f8, l8⟩ := y8.facts
    obtain ⟨c9, f9, l9⟩ := y9.facts
    have g83 : W'.heap.size ≠ w.heap.size + 3 := by omega
    have g84 : W'.heap.size ≠ w.heap.size + 4 := by omega
    have g93 : W'.heap.size + 1 ≠ w.heap.size + 3 := by omega
    have g94 : W'.heap.size + 1 ≠ w.heap.size + 4 := by omega
    have hon : On W.heap.size (W.heap.size + 2 + 2) W2 ((((W2.setCell ⟨w.heap.size + 3, 0, none⟩ (.int .i64 p.lo)).setCell ⟨w.heap.size + 3, 1, none⟩ (.int .i64 p.hi)).setCell ⟨w.heap.size + 4, 0, none⟩ (.int .i64 q.lo)).setCell ⟨w.heap.size + 4, 1, none⟩ (.int .i64 q.hi)) :=
      (((on_setCell _ _ (by simp; omega)).trans (on_setCell _ _ (by simp; omega))).trans (on_setCell _ _ (by simp; omega))).trans (on_setCell _ _ (by simp; omega))
    by_cases hkj2 : i + k = j
    · have hkj3 : (i:Int) + k = j := by omega
      gi_wp2
      gi_region
      all_goals
        gi_wp2
        refine ⟨⟨hon.os, hon.tape, hon.output, hon.size, hon.block⟩, rfl, ?_, ?_, ?_⟩
        · rw [← hkj2, hp]; (refine blkE ?_; repeat (first | (with_reducible refine BlkE.new_ (by first | (simp; done) | (simp; omega) | omega) ?_; (first | rfl | (simp; done))) | (with_reducible refine BlkE.alloc ?_ _) | (with_reducible refine BlkE.far ?_ _ (by first | (simp; done) | (simp; omega) | omega)) | (with_reducible refine BlkE.set_ ?_ (by first | (simp; done) | (simp; omega) | omega)) | (with_reducible refine BlkE.drew ?_) | (with_reducible refine BlkE.drewN ?_ _) | (refine BlkE.leaf (by assumption) ?_; (first | rfl | (simp; done)))))
        · rw [← hkj2, hq]; (refine blkE ?_; repeat (first | (with_reducible refine BlkE.new_ (by first | (simp; done) | (simp; omega) | omega) ?_; (first | rfl | (simp; done))) | (with_reducible refine BlkE.alloc ?_ _) | (with_reducible refine BlkE.far ?_ _ (by first | (simp; done) | (simp; omega) | omega)) | (with_reducible refine BlkE.set_ ?_ (by first | (simp; done) | (simp; omega) | omega)) | (with_reducible refine BlkE.drew ?_) | (with_reducible refine BlkE.drewN ?_ _) | (refine BlkE.leaf (by assumption) ?_; (first | rfl | (simp; done)))))
        · (repeat (first | (with_reducible refine bx_alloc ?_ _) | (with_reducible refine below_setCell ?_ (by first | (simp; done) | (simp; omega) | omega)) | (with_reducible refine below_drew ?_) | (with_reducible refine below_drewN ?_ _) | (with_reducible assumption) | (with_reducible exact Below.refl _ _)))
    · have hkj3 : ¬ (i:Int) + k = j := by omega
      have hl9 : j ≤ 100 := by omega
      gi_wp2
      gi_region
      all_goals
        gi_wp2
        refine ⟨⟨hon.os, hon.tape, hon.output, ?_, ?_⟩, by omega, ?_, ?_, ⟨p.lo, p.hi, ?_⟩, ⟨q.lo, q.hi, ?_⟩, ?_, ?_, ?_⟩
        · have := hon.size; simpa using this
        · intro g h1 h2; exact (Below.heap_setCell _ _ _ _ (by simp; omega)).trans (hon.block g h1 h2)
        · (refine blkE ?_; repeat (first | (with_reducible refine BlkE.new_ (by first | (simp; done) | (simp; omega) | omega) ?_; (first | rfl | (simp [Int.natCast_add, Int.add_assoc]; done))) | (with_reducible refine BlkE.alloc ?_ _) | (with_reducible refine BlkE.far ?_ _ (by first | (simp; done) | (simp; omega) | omega)) | (with_reducible refine BlkE.set_ ?_ (by first | (simp; done) | (simp; omega) | omega)) | (with_reducible refine BlkE.drew ?_) | (with_reducible refine BlkE.drewN ?_ _) | (refine BlkE.leaf (by assumption) ?_; (first | rfl | (simp [Int.natCast_add, Int.add_assoc]; done)))))
        · (refine blkE ?_; repeat (first | (with_reducible refine BlkE.new_ (by first | (simp; done) | (simp; omega) | omega) ?_; (first | rfl | (simp; done))) | (with_reducible refine BlkE.alloc ?_ _) | (with_reducible refine BlkE.far ?_ _ (by first | (simp; done) | (simp; omega) | omega)) | (with_reducible refine BlkE.set_ ?_ (by first | (simp; done) | (simp; omega) | omega)) | (with_reducible refine BlkE.drew ?_) | (with_reducible refine BlkE.drewN ?_ _) | (refine BlkE.leaf (by assumption) ?_; (first | rfl | (simp; done)))))
        · (refine blkE ?_; repeat (first | (with_reducible refine BlkE.new_ (by first | (simp; done) | (simp; omega) | omega) ?_; (first | rfl | (simp; done))) | (with_reducible refine BlkE.alloc ?_ _) | (with_reducible refine BlkE.far ?_ _ (by first | (simp; done) | (simp; omega) | omega)) | (with_reducible refine BlkE.set_ ?_ (by first | (simp; done) | (simp; omega) | omega)) | (with_reducible refine BlkE.drew ?_) | (with_reducible refine BlkE.drewN ?_ _) | (refine BlkE.leaf (by assumption) ?_; (first | rfl | (simp; done)))))
        · (refine blkE ?_; repeat (first | (with_reducible refine BlkE.new_ (by first | (simp; done) | (simp; omega) | omega) ?_; (first | rfl | (simp; done))) | (with_reducible refine BlkE.alloc ?_ _) | (with_reducible refine BlkE.far ?_ _ (by first | (simp; done) | (simp; omega) | omega)) | (with_reducible refine BlkE.set_ ?_ (by first | (simp; done) | (simp; omega) | omega)) | (with_reducible refine BlkE.drew ?_) | (with_reducible refine BlkE.drewN ?_ _) | (refine BlkE.leaf (by assumption) ?_; (first | rfl | (simp; done)))))
        · (refine blkE ?_; repeat (first | (with_reducible refine BlkE.new_ (by first | (simp; done) | (simp; omega) | omega) ?_; (first | rfl | (simp; done))) | (with_reducible refine BlkE.alloc ?_ _) | (with_reducible refine BlkE.far ?_ _ (by first | (simp; done) | (simp; omega) | omega)) | (with_reducible refine BlkE.set_ ?_ (by first | (simp; done) | (simp; omega) | omega)) | (with_reducible refine BlkE.drew ?_) | (with_reducible refine BlkE.drewN ?_ _) | (refine BlkE.leaf (by assumption) ?_; (first | rfl | (simp; done)))))
        · (refine blkE ?_; repeat (first | (with_reducible refine BlkE.new_ (by first | (simp; done) | (simp; omega) | omega) ?_; (first | rfl | (simp; done))) | (with_reducible refine BlkE.alloc ?_ _) | (with_reducible refine BlkE.far ?_ _ (by first | (simp; done) | (simp; omega) | omega)) | (with_reducible refine BlkE.set_ ?_ (by first | (simp; done) | (simp; omega) | omega)) | (with_reducible refine BlkE.drew ?_) | (with_reducible refine BlkE.drewN ?_ _) | (refine BlkE.leaf (by assumption) ?_; (first | rfl | (simp; done)))))
        · (repeat (first | (with_reducible refine bx_alloc ?_ _) | (with_reducible refine below_setCell ?_ (by first | (simp; done) | (simp; omega) | omega)) | (with_reducible refine below_drew ?_) | (with_reducible refine below_drewN ?_ _) | (with_reducible assumption) | (with_reducible exact Below.refl _ _)))
  · rintro W' ⟨hk, _⟩
    omega
  · rintro c k W' hk ⟨rfl, h3, h4, h7⟩ hD hsz
    obtain ⟨c3, f3, l3⟩ := h3.facts
    obtain ⟨c4, f4, l4⟩ := h4.facts
    refine wpIn_wide.2 ?_
    go_wp2
    go_region
    all_goals
      go_wp2
      generalize hV : World.drew _ = V
      have v3 : Blk V (w.heap.size + 3) #[.int .i64 (longBetween t i j).lo, .int .i64 (longBetween t i j).hi] := by rw [← hV]; (refine blkE ?_; repeat (first | (with_reducible refine BlkE.new_ (by first | (simp; done) | (simp; omega) | omega) ?_; (first | rfl | (simp; done))) | (with_reducible refine BlkE.alloc ?_ _) | (with_reducible refine BlkE.far ?_ _ (by first | (simp; done) | (simp; omega) | omega)) | (with_reducible refine BlkE.set_ ?_ (by first | (simp; done) | (simp; omega) | omega)) | (with_reducible refine BlkE.drew ?_) | (with_reducible refine BlkE.drewN ?_ _) | (refine BlkE.leaf (by assumption) ?_; (first | rfl | (simp; done)))))
      have v4 : Blk V (w.heap.size + 4) #[.int .i64 (fallBetween t i j).lo, .int .i64 (fallBetween t i j).hi] := by rw [← hV]; (refine blkE ?_; repeat (first | (with_reducible refine BlkE.new_ (by first | (simp; done) | (simp; omega) | omega) ?_; (first | rfl | (simp; done))) | (with_reducible refine BlkE.alloc ?_ _) | (with_reducible refine BlkE.far ?_ _ (by first | (simp; done) | (simp; omega) | omega)) | (with_reducible refine BlkE.set_ ?_ (by first | (simp; done) | (simp; omega) | omega)) | (with_reducible refine BlkE.drew ?_) | (with_reducible refine BlkE.drewN ?_ _) | (refine BlkE.leaf (by assumption) ?_; (first | rfl | (simp; done)))))
      have v7 : Below w.heap.size w V := by rw [← hV]; (repeat (first | (with_reducible refine bx_alloc ?_ _) | (with_reducible refine below_setCell ?_ (by first | (simp; done) | (simp; omega) | omega)) | (with_reducible refine below_drew ?_) | (with_reducible refine below_drewN ?_ _) | (with_reducible assumption) | (with_reducible exact Below.refl _ _)))
      have vD : V.heap[W.heap.size]? = some (.deferred (some [])) := by
        rw [← hV]
        exact (Below.heap_setCell _ _ _ _ (by simp; omega)).trans ((Below.heap_setCell _ _ _ _ (by simp; omega)).trans ((Below.heap_setCell _ _ _ _ (by simp; omega)).trans ((Below.heap_setCell _ _ _ _ (by simp; omega)).trans hD)))
      have hvs : W.heap.size < V.heap.size := (Array.getElem?_eq_some_iff.1 vD).1
      have ho := off_putObj V (.deferred none) (lo := W.heap.size) (hi := W.heap.size + 1) (Nat.le_refl _) (by omega)
      exact leaves_range vD (results_sp2 rfl rfl (v3.off ho (by omega)) rfl (v4.off ho (by omega))) ⟨rfl, below_offs v7 ho hB.size v7.size⟩
end Go.Proofs.YtdigopgncfhiaaaDoor
/- Drop: of the program and of the reference. -/
namespace Go.Proofs.YtdigopgncfhiaaaDoor
set_option linter.unusedVariables false
open Go.RowKit
set_option linter.unusedSimpArgs false
set_option maxRecDepth 20000

def dropOk (t : List St) (i j : Int) : Bool := inB 0 t.length i && inB i t.length j
def dropL (t : List St) (i j : Int) : Sp := if valid t && dropOk t i j then longBetween t i.toNat j.toNat else ⟨0, 0⟩
def dropF (t : List St) (i j : Int) : Sp := if valid t && dropOk t i j then fallBetween t i.toNat j.toNat else ⟨0, 0⟩
def errD (t : List St) (i j : Int) : Int := if valid t then (if dropOk t i j then 0 else 2) else 10

end Go.Proofs.YtdigopgncfhiaaaDoor
/- Drop of the program. -/
namespace Go.Proofs.YtdigopgncfhiaaaDoor
set_option linter.unusedVariables false
open Go.RowKit
set_option linter.unusedSimpArgs false
set_option maxRecDepth 20000

set_option maxHeartbeats 4000000 in
theorem drop_any (t : List St) (A : Option Addr) (cap : Nat) (i j : Int) (w : World) (ht : SlAt encSt 9 w A t) (hf : FitT t) (hl : t.length ≤ 1000000) :
    Gives 87 #[vT A t.length cap, .int .i64 i, .int .i64 j] w (.tuple #[vSp (dropL t i j), vSp (dropF t i j), .int .i64 (errD t i j)]) := by
  unfold Gives vT
  have HT := Lib.hid ht
  clear ht
  have k0 : Blk (((w.alloc (.cells #[.slice A t.length cap] 24)).alloc (.cells #[.int .i64 0, .int .i64 0] 28)).alloc (.cells #[.int .i64 0, .int .i64 0] 28)) w.heap.size #[.slice A t.length cap] := by (refine blkE ?_; repeat (first | (with_reducible refine BlkE.new_ (by first | (simp; done) | (simp; omega) | omega) ?_; (first | rfl | (simp; done))) | (with_reducible refine BlkE.alloc ?_ _) | (with_reducible refine BlkE.far ?_ _ (by first | (simp; done) | (simp; omega) | omega)) | (with_reducible refine BlkE.set_ ?_ (by first | (simp; done) | (simp; omega) | omega)) | (with_reducible refine BlkE.drew ?_) | (with_reducible refine BlkE.drewN ?_ _) | (refine BlkE.leaf (by assumption) ?_; (first | rfl | (simp; done)))))
  have k1 : Blk (((w.alloc (.cells #[.slice A t.length cap] 24)).alloc (.cells #[.int .i64 0, .int .i64 0] 28)).alloc (.cells #[.int .i64 0, .int .i64 0] 28)) (w.heap.size + 1) #[.int .i64 0, .int .i64 0] := by (refine blkE ?_; repeat (first | (with_reducible refine BlkE.new_ (by first | (simp; done) | (simp; omega) | omega) ?_; (first | rfl | (simp; done))) | (with_reducible refine BlkE.alloc ?_ _) | (with_reducible refine BlkE.far ?_ _ (by first | (simp; done) | (simp; omega) | omega)) | (with_reducible refine BlkE.set_ ?_ (by first | (simp; done) | (simp; omega) | omega)) | (with_reducible refine BlkE.drew ?_) | (with_reducible refine BlkE.drewN ?_ _) | (refine BlkE.leaf (by assumption) ?_; (first | rfl | (simp; done)))))
  have k2 : Blk (((w.alloc (.cells #[.slice A t.length cap] 24)).alloc (.cells #[.int .i64 0, .int .i64 0] 28)).alloc (.cells #[.int .i64 0, .int .i64 0] 28)) (w.heap.size + 2) #[.int .i64 0, .int .i64 0] := by (refine blkE ?_; repeat (first | (with_reducible refine BlkE.new_ (by first | (simp; done) | (simp; omega) | omega) ?_; (first | rfl | (simp; done))) | (with_reducible refine BlkE.alloc ?_ _) | (with_reducible refine BlkE.far ?_ _ (by first | (simp; done) | (simp; omega) | omega)) | (with_reducible refine BlkE.set_ ?_ (by first | (simp; done) | (simp; omega) | omega)) | (with_reducible refine BlkE.drew ?_) | (with_reducible refine BlkE.drewN ?_ _) | (refine BlkE.leaf (by assumption) ?_; (first | rfl | (simp; done)))))
  have hB0 : Below w.heap.size w (((w.alloc (.cells #[.slice A t.length cap] 24)).alloc (.cells #[.int .i64 0, .int .i64 0] 28)).alloc (.cells #[.int .i64 0, .int .i64 0] 28)) := by (repeat (first | (with_reducible refine bx_alloc ?_ _) | (with_reducible refine below_setCell ?_ (by first | (simp; done) | (simp; omega) | omega)) | (with_reducible refine below_drew ?_) | (with_reducible refine below_drewN ?_ _) | (with_reducible assumption) | (with_reducible exact Below.refl _ _)))
  have hd := open_any t A cap _ (HT.out.below hB0) hf hl
  unfold Gives vT at hd
  go_enter Tryd.func87, Tryd.ntmps87
  cases hv : valid t
  · have hd1 : dropL t i j = ⟨0, 0⟩ := by simp [dropL, hv]
    have hd2 : dropF t i j = ⟨0, 0⟩ := by simp [dropF, hv]
    have hd3 : errD t i j = 10 := by simp [errD, hv]
    rw [hd1, hd2, hd3]
    have he : errT t = 10 := by simp [errT, hv]
    rw [he] at hd
    go_wp2_with (go_at_call 118; refine hd.mono ?_; rintro e w1 ⟨rfl, hb1⟩; have x0 := k0.past hb1; have x1 := k1.past hb1; have x2 := k2.past hb1; have hB1 := below_step hB0 hb1; clear hb1; obtain ⟨c0, f0, l0⟩ := x0.facts; obtain ⟨c1, f1, l1⟩ := x1.facts; obtain ⟨c2, f2, l2⟩ := x2.facts)
    refine bodyPost_ret (results_sp3 (x := .int .i64 0) (y := .int .i64 0) (x' := .int .i64 0) (y' := .int .i64 0) rfl rfl ?_ rfl ?_) rfl ⟨rfl, ?_⟩
    · (refine blkE ?_; repeat (first | (with_reducible refine BlkE.new_ (by first | (simp; done) | (simp; omega) | omega) ?_; (first | rfl | (simp; done))) | (with_reducible refine BlkE.alloc ?_ _) | (with_reducible refine BlkE.far ?_ _ (by first | (simp; done) | (simp; omega) | omega)) | (with_reducible refine BlkE.set_ ?_ (by first | (simp; done) | (simp; omega) | omega)) | (with_reducible refine BlkE.drew ?_) | (with_reducible refine BlkE.drewN ?_ _) | (refine BlkE.leaf (by assumption) ?_; (first | rfl | (simp; done)))))
    · (refine blkE ?_; repeat (first | (with_reducible refine BlkE.new_ (by first | (simp; done) | (simp; omega) | omega) ?_; (first | rfl | (simp; done))) | (with_reducible refine BlkE.alloc ?_ _) | (with_reducible refine BlkE.far ?_ _ (by first | (simp; done) | (simp; omega) | omega)) | (with_reducible refine BlkE.set_ ?_ (by first | (simp; done) | (simp; omega) | omega)) | (with_reducible refine BlkE.drew ?_) | (with_reducible refine BlkE.drewN ?_ _) | (refine BlkE.leaf (by assumption) ?_; (first | rfl | (simp; done)))))
    · (repeat (first | (with_reducible refine bx_alloc ?_ _) | (with_reducible refine below_setCell ?_ (by first | (simp; done) | (simp; omega) | omega)) | (with_reducible refine below_drew ?_) | (with_reducible refine below_drewN ?_ _) | (with_reducible assumption) | (with_reducible exact Below.refl _ _)))
  · have he : errT t = 0 := by simp [errT, hv]
    rw [he] at hd
    cases h1 : dropOk t i j
    · have hd1 : dropL t i j = ⟨0, 0⟩ := by simp [dropL, h1]
      have hd2 : dropF t i j = ⟨0, 0⟩ := by simp [dropF, h1]
      have hd3 : errD t i j = 2 := by simp [errD, hv, h1]
      rw [hd1, hd2, hd3]
      cases h2 : inB 0 t.length i && inB 0 t.length j
      · have h3 := Lib.hid h2
        clear h2 h1
        go_wp2_with (first | (go_at_call 118; refine hd.mono ?_; rintro e w1 ⟨rfl, hb1⟩; have x0 := k0.past hb1; have x1 := k1.past hb1; have x2 := k2.past hb1; have hB1 := below_step hB0 hb1; clear hb1; obtain ⟨c0, f0, l0⟩ := x0.facts; obtain ⟨c1, f1, l1⟩ := x1.facts; obtain ⟨c2, f2, l2⟩ := x2.facts) | (go_at_call 99; refine (in_two _ _ _ _ _ _ _ _ (by simp)).mono ?_; rintro e w2 ⟨rfl, hb2⟩; rw [h3.out]; have y1 : Blk _ (w.heap.size + 1) _ := (Blk.alloc (Blk.alloc x1 _) _).past hb2; have y2 : Blk _ (w.heap.size + 2) _ := (Blk.alloc (Blk.alloc x2 _) _).past hb2; have hB2 := below_step (bx_alloc (bx_alloc hB1 _) _) hb2; clear c0 f0 c1 f1 c2 f2 l0 l1 l2 hb2; obtain ⟨c1, f1, l1⟩ := y1.facts; obtain ⟨c2, f2, l2⟩ := y2.facts))
        refine bodyPost_ret (results_sp3 (x := .int .i64 0) (y := .int .i64 0) (x' := .int .i64 0) (y' := .int .i64 0) rfl rfl ?_ rfl ?_) rfl ⟨rfl, ?_⟩
        · (refine blkE ?_; repeat (first | (with_reducible refine BlkE.new_ (by first | (simp; done) | (simp; omega) | omega) ?_; (first | rfl | (simp; done))) | (with_reducible refine BlkE.alloc ?_ _) | (with_reducible refine BlkE.far ?_ _ (by first | (simp; done) | (simp; omega) | omega)) | (with_reducible refine BlkE.set_ ?_ (by first | (simp; done) | (simp; omega) | omega)) | (with_reducible refine BlkE.drew ?_) | (with_reducible refine BlkE.drewN ?_ _) | (refine BlkE.leaf (by assumption) ?_; (first | rfl | (simp; done)))))
        · (refine blkE ?_; repeat (first | (with_reducible refine BlkE.new_ (by first | (simp; done) | (simp; omega) | omega) ?_; (first | rfl | (simp; done))) | (with_reducible refine BlkE.alloc ?_ _) | (with_reducible refine BlkE.far ?_ _ (by first | (simp; done) | (simp; omega) | omega)) | (with_reducible refine BlkE.set_ ?_ (by first | (simp; done) | (simp; omega) | omega)) | (with_reducible refine BlkE.drew ?_) | (with_reducible refine BlkE.drewN ?_ _) | (refine BlkE.leaf (by assumption) ?_; (first | rfl | (simp; done)))))
        · (repeat (first | (with_reducible refine bx_alloc ?_ _) | (with_reducible refine below_setCell ?_ (by first | (simp; done) | (simp; omega) | omega)) | (with_reducible refine below_drew ?_) | (with_reducible refine below_drewN ?_ _) | (with_reducible assumption) | (with_reducible exact Below.refl _ _)))
      · have h3 := Lib.hid h2
        have hij : j < i := by
          rw [Bool.and_eq_true, inB_iff, inB_iff] at h2
          rcases Int.lt_or_le j i with h | h
          · exact h
          · exfalso
            have : dropOk t i j = true := by simp only [dropOk, Bool.and_eq_true, inB_iff]; omega
            rw [h1] at this; cases this
        clear h2 h1
        go_wp2_with (first | (go_at_call 118; refine hd.mono ?_; rintro e w1 ⟨rfl, hb1⟩; have x0 := k0.past hb1; have x1 := k1.past hb1; have x2 := k2.past hb1; have hB1 := below_step hB0 hb1; clear hb1; obtain ⟨c0, f0, l0⟩ := x0.facts; obtain ⟨c1, f1, l1⟩ := x1.facts; obtain ⟨c2, f2, l2⟩ := x2.facts) | (go_at_call 99; refine (in_two _ _ _ _ _ _ _ _ (by simp)).mono ?_; rintro e w2 ⟨rfl, hb2⟩; rw [h3.out]; have y1 : Blk _ (w.heap.size + 1) _ := (Blk.alloc (Blk.alloc x1 _) _).past hb2; have y2 : Blk _ (w.heap.size + 2) _ := (Blk.alloc (Blk.alloc x2 _) _).past hb2; have hB2 := below_step (bx_alloc (bx_alloc hB1 _) _) hb2; clear c0 f0 c1 f1 c2 f2 l0 l1 l2 hb2; obtain ⟨c1, f1, l1⟩ := y1.facts; obtain ⟨c2, f2, l2⟩ := y2.facts))
        refine bodyPost_ret (results_sp3 (x := .int .i64 0) (y := .int .i64 0) (x' := .int .i64 0) (y' := .int .i64 0) rfl rfl ?_ rfl ?_) rfl ⟨rfl, ?_⟩
        · (refine blkE ?_; repeat (first | (with_reducible refine BlkE.new_ (by first | (simp; done) | (simp; omega) | omega) ?_; (first | rfl | (simp; done))) | (with_reducible refine BlkE.alloc ?_ _) | (with_reducible refine BlkE.far ?_ _ (by first | (simp; done) | (simp; omega) | omega)) | (with_reducible refine BlkE.set_ ?_ (by first | (simp; done) | (simp; omega) | omega)) | (with_reducible refine BlkE.drew ?_) | (with_reducible refine BlkE.drewN ?_ _) | (refine BlkE.leaf (by assumption) ?_; (first | rfl | (simp; done)))))
        · (refine blkE ?_; repeat (first | (with_reducible refine BlkE.new_ (by first | (simp; done) | (simp; omega) | omega) ?_; (first | rfl | (simp; done))) | (with_reducible refine BlkE.alloc ?_ _) | (with_reducible refine BlkE.far ?_ _ (by first | (simp; done) | (simp; omega) | omega)) | (with_reducible refine BlkE.set_ ?_ (by first | (simp; done) | (simp; omega) | omega)) | (with_reducible refine BlkE.drew ?_) | (with_reducible refine BlkE.drewN ?_ _) | (refine BlkE.leaf (by assumption) ?_; (first | rfl | (simp; done)))))
        · (repeat (first | (with_reducible refine bx_alloc ?_ _) | (with_reducible refine below_setCell ?_ (by first | (simp; done) | (simp; omega) | omega)) | (with_reducible refine below_drew ?_) | (with_reducible refine below_drewN ?_ _) | (with_reducible assumption) | (with_reducible exact Below.refl _ _)))
    · obtain ⟨h2, h2'⟩ : inB 0 t.length i = true ∧ inB i t.length j = true := by simpa [dropOk] using h1
      have h5 := inB_iff.1 h2
      have h6 := inB_iff.1 h2'
      obtain ⟨I, rfl⟩ := Int.eq_ofNat_of_zero_le h5.1
      obtain ⟨J, rfl⟩ := Int.eq_ofNat_of_zero_le (show 0 ≤ j by omega)
      have hlen := valid_len hv
      have hd1 : dropL t I J = longBetween t I J := by simp [dropL, hv, h1]
      have hd2 : dropF t I J = fallBetween t I J := by simp [dropF, hv, h1]
      have hd3 : errD t I J = 0 := by simp [errD, hv, h1]
      have hm : ∀ W : World, Below w.heap.size w W → Gives 119 #[.agg #[.slice A t.length cap], .int .i64 I, .int .i64 J] W (.tuple #[.agg #[.int .i64 (dropL t I J).lo, .int .i64 (dropL t I J).hi], .agg #[.int .i64 (dropF t I J).lo, .int .i64 (dropF t I J).hi]]) := fun W hW => by
        rw [hd1, hd2]; exact vdrop_any t A cap I J W (HT.out.below hW) (valid_okay hv) (by omega) (by omega) (by omega)
      unfold Gives at hm
      rw [hd3]
      have HM := Lib.hid hm
      have h3 : (inB 0 t.length I && inB 0 t.length J) = true := by simp only [Bool.and_eq_true, inB_iff]; omega
      have h3 := Lib.hid h3
      have hij : (I:Int) ≤ J := by omega
      clear h2 h2' hm hd1 hd2 hd3 h1
      unfold vSp
      generalize dropL t I J = p at *
      generalize dropF t I J = q at *
      go_wp2_with (first | (go_at_call 118; refine hd.mono ?_; rintro e w1 ⟨rfl, hb1⟩; have x0 := k0.past hb1; have x1 := k1.past hb1; have x2 := k2.past hb1; have hB1 := below_step hB0 hb1; clear hb1; obtain ⟨c0, f0, l0⟩ := x0.facts; obtain ⟨c1, f1, l1⟩ := x1.facts; obtain ⟨c2, f2, l2⟩ := x2.facts) | (go_at_call 99; refine (in_two _ _ _ _ _ _ _ _ (by simp)).mono ?_; rintro e w2 ⟨rfl, hb2⟩; rw [h3.out]; have y1 : Blk _ (w.heap.size + 1) _ := (Blk.alloc (Blk.alloc x1 _) _).past hb2; have y2 : Blk _ (w.heap.size + 2) _ := (Blk.alloc (Blk.alloc x2 _) _).past hb2; have y9 : Blk _ w1.heap.size _ := (Blk.alloc (Blk.new _ _ _) _).past hb2; have hB2 := below_step (bx_alloc (bx_alloc hB1 _) _) hb2; clear c0 f0 c1 f1 c2 f2 l0 l1 l2 hb2; obtain ⟨c1, f1, l1⟩ := y1.facts; obtain ⟨c2, f2, l2⟩ := y2.facts; obtain ⟨c9, f9, l9⟩ := y9.facts) | (go_at_call 119; refine (HM.out _ hB2).mono ?_; rintro e w3 ⟨rfl, hb3⟩; have z1 := y1.past hb3; have z2 := y2.past hb3; have hB3 := below_step hB2 hb3; clear c1 f1 c2 f2 l1 l2 c9 f9 l9 hb3; obtain ⟨c1, f1, l1⟩ := z1.facts; obtain ⟨c2, f2, l2⟩ := z2.facts))
      simp only [Nat.add_assoc, Nat.reduceAdd]
      clear c1 f1 c2 f2
      generalize hX : (((w3.setCell ⟨w.heap.size + 1, 0, none⟩ (.int .i64 p.lo)).setCell ⟨w.heap.size + 1, 1, none⟩ (.int .i64 p.hi)).setCell ⟨w.heap.size + 2, 0, none⟩ (.int .i64 q.lo)).setCell ⟨w.heap.size + 2, 1, none⟩ (.int .i64 q.hi) = X
      have y1 : Blk X (w.heap.size + 1) #[.int .i64 p.lo, .int .i64 p.hi] := by rw [← hX]; (refine blkE ?_; repeat (first | (with_reducible refine BlkE.new_ (by first | (simp; done) | (simp; omega) | omega) ?_; (first | rfl | (simp; done))) | (with_reducible refine BlkE.alloc ?_ _) | (with_reducible refine BlkE.far ?_ _ (by first | (simp; done) | (simp; omega) | omega)) | (with_reducible refine BlkE.set_ ?_ (by first | (simp; done) | (simp; omega) | omega)) | (with_reducible refine BlkE.drew ?_) | (with_reducible refine BlkE.drewN ?_ _) | (refine BlkE.leaf (by assumption) ?_; (first | rfl | (simp; done)))))
      have y2 : Blk X (w.heap.size + 2) #[.int .i64 q.lo, .int .i64 q.hi] := by rw [← hX]; (refine blkE ?_; repeat (first | (with_reducible refine BlkE.new_ (by first | (simp; done) | (simp; omega) | omega) ?_; (first | rfl | (simp; done))) | (with_reducible refine BlkE.alloc ?_ _) | (with_reducible refine BlkE.far ?_ _ (by first | (simp; done) | (simp; omega) | omega)) | (with_reducible refine BlkE.set_ ?_ (by first | (simp; done) | (simp; omega) | omega)) | (with_reducible refine BlkE.drew ?_) | (with_reducible refine BlkE.drewN ?_ _) | (refine BlkE.leaf (by assumption) ?_; (first | rfl | (simp; done)))))
      have hBX : Below w.heap.size w X := by rw [← hX]; (repeat (first | (with_reducible refine bx_alloc ?_ _) | (with_reducible refine below_setCell ?_ (by first | (simp; done) | (simp; omega) | omega)) | (with_reducible refine below_drew ?_) | (with_reducible refine below_drewN ?_ _) | (with_reducible assumption) | (with_reducible exact Below.refl _ _)))
      clear hX hB1 hB2 hB3 x0 x1 x2 z1 z2
      obtain ⟨c1, f1, l1⟩ := y1.facts
      obtain ⟨c2, f2, l2⟩ := y2.facts
      go_region
      all_goals
        go_wp2
        refine bodyPost_ret (results_sp3 (x := .int .i64 p.lo) (y := .int .i64 p.hi) (x' := .int .i64 q.lo) (y' := .int .i64 q.hi) rfl rfl ?_ rfl ?_) rfl ⟨rfl, ?_⟩
        · (refine blkE ?_; repeat (first | (with_reducible refine BlkE.new_ (by first | (simp; done) | (simp; omega) | omega) ?_; (first | rfl | (simp; done))) | (with_reducible refine BlkE.alloc ?_ _) | (with_reducible refine BlkE.far ?_ _ (by first | (simp; done) | (simp; omega) | omega)) | (with_reducible refine BlkE.set_ ?_ (by first | (simp; done) | (simp; omega) | omega)) | (with_reducible refine BlkE.drew ?_) | (with_reducible refine BlkE.drewN ?_ _) | (refine BlkE.leaf (by assumption) ?_; (first | rfl | (simp; done)))))
        · (refine blkE ?_; repeat (first | (with_reducible refine BlkE.new_ (by first | (simp; done) | (simp; omega) | omega) ?_; (first | rfl | (simp; done))) | (with_reducible refine BlkE.alloc ?_ _) | (with_reducible refine BlkE.far ?_ _ (by first | (simp; done) | (simp; omega) | omega)) | (with_reducible refine BlkE.set_ ?_ (by first | (simp; done) | (simp; omega) | omega)) | (with_reducible refine BlkE.drew ?_) | (with_reducible refine BlkE.drewN ?_ _) | (refine BlkE.leaf (by assumption) ?_; (first | rfl | (simp; done)))))
        · (repeat (first | (with_reducible refine bx_alloc ?_ _) | (with_reducible refine below_setCell ?_ (by first | (simp; done) | (simp; omega) | omega)) | (with_reducible refine below_drew ?_) | (with_reducible refine below_drewN ?_ _) | (with_reducible assumption) | (with_reducible exact Below.refl _ _)))
end Go.Proofs.YtdigopgncfhiaaaDoor
