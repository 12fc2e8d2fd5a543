/- open: a survey is the track, and Check's error. -/
import Derived.Test.YtdigopgncfhiaaaDoorCheck
import Derived.Test.YtdigopgncfhiaaaDoorLaw
namespace Go.Proofs.YtdigopgncfhiaaaDoor
set_option linter.unusedVariables false
open Go.RowKit
set_option linter.unusedSimpArgs false
set_option maxRecDepth 20000

theorem load_v {w : World} {g : Nat} {x : Value} (hk : Blk w g #[x]) : (loadVar 186 ⟨g, 0, none⟩).run Tryd.prog w = .ok (.agg #[x]) w := by
  have h0 := hk.cell 0
  simp at h0
  simp [go_sem, h0]
theorem results_vt {fn : Func} {t s : Tmp} {tmps : Array Value} {w : World} {g : Nat} {x : Value} (hr : fn.results = #[.cell t 186, .tmp s]) (hp : tmps.getD t undef = .pointer (some ⟨g, 0, none⟩)) (hk : Blk w g #[x]) :
    (results fn tmps).run Tryd.prog w = .ok (.tuple #[.agg #[x], tmps.getD s undef]) w := by
  simp [results, hr, -Array.getD_eq_getD_getElem?, hp, asAddr, load_v hk]
def errT (t : List St) : Int := if valid t then 0 else 10

set_option maxHeartbeats 2000000 in
theorem open_any (t : List St) (A : Option Addr) (cap : Nat) (w : World) (ht : SlAt encSt 9 w A t) (hf : FitT t) (hl : t.length ≤ 1000000) :
    Gives 118 #[vT A t.length cap] w (.tuple #[vT A t.length cap, .int .i64 (errT t)]) := by
  unfold Gives vT
  have HT := Lib.hid ht
  clear ht
  go_enter Tryd.func118, Tryd.ntmps118
  go_wp2
  have hc : ∀ W : World, Below w.heap.size w W → Gives 77 #[.agg #[.slice A t.length cap]] W (.int .i64 (errT t)) := by
    intro W hW
    exact check_any t A cap W (HT.out.below hW) hf hl
  have HC := Lib.hid hc
  clear hc
  generalize hW0 : (w.alloc (.cells #[.slice A t.length cap] 24)).alloc (.cells #[.slice none 0 0] 186) = W0
  have b1 : Blk W0 w.heap.size #[.slice A t.length cap] := by rw [← hW0]; (refine blkE ?_; repeat (first | (with_reducible refine BlkE.new_ (by first | (simp; done) | (simp; omega) | omega) ?_; (first | rfl | (simp; done))) | (with_reducible refine BlkE.alloc ?_ _) | (with_reducible refine BlkE.far ?_ _ (by first | (simp; done) | (simp; omega) | omega)) | (with_reducible refine BlkE.set_ ?_ (by first | (simp; done) | (simp; omega) | omega)) | (with_reducible refine BlkE.drew ?_) | (with_reducible refine BlkE.drewN ?_ _) | (refine BlkE.leaf (by assumption) ?_; (first | rfl | (simp; done)))))
  have b2 : Blk W0 (w.heap.size + 1) #[.slice none 0 0] := by rw [← hW0]; (refine blkE ?_; repeat (first | (with_reducible refine BlkE.new_ (by first | (simp; done) | (simp; omega) | omega) ?_; (first | rfl | (simp; done))) | (with_reducible refine BlkE.alloc ?_ _) | (with_reducible refine BlkE.far ?_ _ (by first | (simp; done) | (simp; omega) | omega)) | (with_reducible refine BlkE.set_ ?_ (by first | (simp; done) | (simp; omega) | omega)) | (with_reducible refine BlkE.drew ?_) | (with_reducible refine BlkE.drewN ?_ _) | (refine BlkE.leaf (by assumption) ?_; (first | rfl | (simp; done)))))
  have hB : Below w.heap.size w W0 := by rw [← hW0]; (repeat (first | (with_reducible refine bx_alloc ?_ _) | (with_reducible refine below_setCell ?_ (by first | (simp; done) | (simp; omega) | omega)) | (with_reducible refine below_drew ?_) | (with_reducible refine below_drewN ?_ _) | (with_reducible assumption) | (with_reducible exact Below.refl _ _)))
  have hs : W0.heap.size = w.heap.size + 2 := by rw [← hW0]; simp
  clear hW0
  obtain ⟨c1, f1, l1⟩ := b1.facts
  refine wp_region_law (fun b => b = w.heap.size + 1) (fun r => [oA (w.heap.size + 1) #[.slice none 0 0], vA 4 (.agg #[.slice A t.length cap]), vA 5 (.agg #[.slice A t.length cap]), vA 6 (.agg #[.slice A t.length cap]), vA 7 (.int .i64 (errT t)), oA (w.heap.size + 1) #[.slice A t.length cap], vA 3 (.int .i64 (errT t))].getD r nA) [(4, [0])] 1 (fun _ => [w.heap.size + 1]) 7 (by rfl) (by kernel_rfl) (by kernel_rfl) ?_ ?_ ?_ ?_ ?_ ?_
  · intro r hr
    obtain rfl : r = 0 := by omega
    exact oA_in rfl b2
  · intro r hr b hb
    simp at hb
    subst hb
    exact ⟨by omega, rfl⟩
  · intros; omega
  · (repeat (first | exact AllFrom.nil | (refine AllFrom.cons (asn_loc (by rintro _ ⟨⟩ <;> exact ⟨by decide, by kernel_rfl⟩)) ?_)))
  · (refine (OpsOk.cons ?_ (OpsOk.cons ?_ (OpsOk.cons ?_ (OpsOk.cons ?_ (OpsOk.cons ?_ (OpsOk.cons ?_ OpsOk.nil)))))))
    all_goals (refine OpOk.of (fun a v S hs hC hr hav K hK => ?_); have cC := hC.cells.1; have fC := hC.cells.2; have HS := Lib.hid hs; have HK := Lib.hid hC)
    · (have q1 := (hr 1 (by kernel_rfl)); clear hr hav hs hC; simp [Array.getD_eq_getD_getElem?, vSp] at q1; go_simp); (refine hK _ _ (post_val (vA_in (getD_put (by rw [HS.out]; exact Nat.lt_of_sub_ne_zero (by simp))))))
    · (have u1 := (hav 1 (by kernel_rfl)); (try dsimp only at u1); replace u1 := vA_out u1; clear hr hav hs hC; simp [Array.getD_eq_getD_getElem?, vSp] at u1; go_simp); (refine hK _ _ (post_val (vA_in (getD_put (by rw [HS.out]; exact Nat.lt_of_sub_ne_zero (by simp))))))
    · (have q1 := (hr 1 (by kernel_rfl)); clear hr hav hs hC; simp [Array.getD_eq_getD_getElem?, vSp] at q1; go_simp); (refine hK _ _ (post_val (vA_in (getD_put (by rw [HS.out]; exact Nat.lt_of_sub_ne_zero (by simp))))))
    · have hb := hB.trans (HK.out.below (n := w.heap.size) (by intros; omega) (by omega))
      (have u3 := (hav 3 (by kernel_rfl)); (try dsimp only at u3); replace u3 := vA_out u3; clear hr hav hs hC; simp [Array.getD_eq_getD_getElem?, vSp] at u3; go_simp)
      go_at_call 77
      refine (HC.out _ hb).mono ?_
      rintro e w1 ⟨rfl, hb1⟩
      (refine hK _ _ (post_call (by assumption) (vA_in (getD_put (by rw [HS.out]; exact Nat.lt_of_sub_ne_zero (by simp))))))
    · (have h0 := hav 0 (by kernel_rfl); (try dsimp only at h0))
      obtain ⟨hS, hbl⟩ := oA_out h0
      obtain ⟨k1, k2, k3⟩ := hbl.facts
      (have q2 := (hr 2 (by kernel_rfl)); have u2 := (hav 2 (by kernel_rfl)); (try dsimp only at u2); replace u2 := vA_out u2; clear hr hav hs hC; simp [Array.getD_eq_getD_getElem?, vSp] at q2; simp [Array.getD_eq_getD_getElem?, vSp] at u2; go_simp)
      refine hK undef _ (post_set 0 (by kernel_rfl) rfl rfl rfl (by simp) ?_ (oA_in hS ?_))
      · intro b hb; rw [hS] at hb; exact Below.heap_setCell _ _ _ _ (by simpa using hb)
      · (refine blkE ?_; repeat (first | (with_reducible refine BlkE.new_ (by first | (simp; done) | (simp; omega) | omega) ?_; (first | rfl | (simp; done))) | (with_reducible refine BlkE.alloc ?_ _) | (with_reducible refine BlkE.far ?_ _ (by first | (simp; done) | (simp; omega) | omega)) | (with_reducible refine BlkE.set_ ?_ (by first | (simp; done) | (simp; omega) | omega)) | (with_reducible refine BlkE.drew ?_) | (with_reducible refine BlkE.drewN ?_ _) | (refine BlkE.leaf (by assumption) ?_; (first | rfl | (simp; done)))))
    · (have u4 := (hav 4 (by kernel_rfl)); (try dsimp only at u4); replace u4 := vA_out u4; clear hr hav hs hC; simp [Array.getD_eq_getD_getElem?, vSp] at u4; go_simp); (refine hK _ _ (post_val (vA_in (getD_put (by rw [HS.out]; exact Nat.lt_of_sub_ne_zero (by simp))))))
  · intro a v S hs hd hrest hC hav
    (have h5 := hav 5 (by kernel_rfl); (try dsimp only at h5))
    have hbl := (oA_out h5).2
    have hb := hB.trans (hC.below (n := w.heap.size) (by intros; omega) (by omega))
    (have u6 := hav 6 (by kernel_rfl); (try dsimp only at u6); replace u6 := vA_out u6; have u4 := hav 4 (by kernel_rfl); (try dsimp only at u4); replace u4 := vA_out u4; have u3 := hav 3 (by kernel_rfl); (try dsimp only at u3); replace u3 := vA_out u3; have u2 := hav 2 (by kernel_rfl); (try dsimp only at u2); replace u2 := vA_out u2; have u1 := hav 1 (by kernel_rfl); (try dsimp only at u1); replace u1 := vA_out u1; have hfr := act_put hs hd hrest _ (by kernel_rfl) (by simp) (wr_cons u1 (wr_cons u2 (wr_cons u3 (wr_cons u4 (wr_cons u6 wr_nil))))); simp only [List.foldl_cons, List.foldl_nil] at hfr; subst hfr)
    go_wp2
    refine bodyPost_ret (results_vt (x := .slice A t.length cap) rfl rfl ?_) rfl ⟨rfl, hb⟩
    exact hbl
end Go.Proofs.YtdigopgncfhiaaaDoor
