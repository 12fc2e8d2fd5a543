/- Slope of the program and of the reference. -/
import Derived.Test.YtekjkaoibcfgfaaDropT
import Derived.Test.YtekjkaoibcfgfaaOpen
namespace Go.Proofs.Ytekjkaoibcfgfaa
set_option linter.unusedVariables false
open Go.RowKit
set_option linter.unusedSimpArgs false
set_option maxRecDepth 20000

/-- how steep a stretch is, in thousandths, at least and at most -/
def slopeOf (s : St) : Sp := ⟨s.fall.lo * 1000 / s.long.hi, (s.fall.hi * 1000 + s.long.lo - 1) / s.long.lo⟩
def slopeT (t : List St) (i : Int) : Sp := if valid t && inB 0 (t.length - 1) i then (match t[i.toNat]? with | some s => slopeOf s | none => ⟨0, 0⟩) else ⟨0, 0⟩
def errS (t : List St) (i : Int) : Int := if valid t then (if inB 0 (t.length - 1) i then 0 else 2) else 10

theorem up_eq {n d : Int} (hn : 0 ≤ n) (hd : 1 ≤ d) : (n + d - 1) / d = if 0 < n % d then n / d + 1 else n / d := by
  have h1 := Int.emod_add_mul_ediv n d
  have h2 := Int.emod_nonneg n (show d ≠ 0 by omega)
  have h3 := Int.emod_lt_of_pos n (show 0 < d by omega)
  generalize n / d = q at *
  generalize n % d = r at *
  have e : n + d - 1 = (r + d - 1) + d * q := by omega
  rw [e, Int.add_mul_ediv_left _ _ (by omega)]
  split
  · have : (r + d - 1) / d = 1 := by
      rw [show r + d - 1 = (r - 1) + d * 1 by omega, Int.add_mul_ediv_left _ _ (by omega), Int.ediv_eq_zero_of_lt (by omega) (by omega)]; rfl
    omega
  · have : (r + d - 1) / d = 0 := Int.ediv_eq_zero_of_lt (by omega) (by omega)
    omega

set_option maxHeartbeats 4000000 in
theorem rSlope_any (t : List St) (A : Option Addr) (cap : Nat) (i : Int) (w : World) (ht : SlAt encSt 9 w A t) (hf : FitT t) (hl : t.length ≤ 1000) :
    Gives 28 #[vT A t.length cap, .int .i64 i] w (.tuple #[vSp (slopeT t i), .int .i64 (errS t i)]) := by
  unfold Gives vT
  have HT := Lib.hid ht
  clear ht
  have k0 : Blk ((w.alloc (.cells #[.slice A t.length cap] 24)).alloc (.cells #[.int .i64 0, .int .i64 0] 34)) w.heap.size #[.slice A t.length cap] := by (refine blkE ?_; repeat (first | (with_reducible refine BlkE.new_ (by first | (simp; done) | (simp; omega) | omega) ?_; (first | rfl | (simp; done))) | (with_reducible refine BlkE.alloc ?_ _) | (with_reducible refine BlkE.far ?_ _ (by first | (simp; done) | (simp; omega) | omega)) | (with_reducible refine BlkE.set_ ?_ (by first | (simp; done) | (simp; omega) | omega)) | (with_reducible refine BlkE.drew ?_) | (with_reducible refine BlkE.drewN ?_ _) | (refine BlkE.leaf (by assumption) ?_; (first | rfl | (simp; done)))))
  have k1 : Blk ((w.alloc (.cells #[.slice A t.length cap] 24)).alloc (.cells #[.int .i64 0, .int .i64 0] 34)) (w.heap.size + 1) #[.int .i64 0, .int .i64 0] := by (refine blkE ?_; repeat (first | (with_reducible refine BlkE.new_ (by first | (simp; done) | (simp; omega) | omega) ?_; (first | rfl | (simp; done))) | (with_reducible refine BlkE.alloc ?_ _) | (with_reducible refine BlkE.far ?_ _ (by first | (simp; done) | (simp; omega) | omega)) | (with_reducible refine BlkE.set_ ?_ (by first | (simp; done) | (simp; omega) | omega)) | (with_reducible refine BlkE.drew ?_) | (with_reducible refine BlkE.drewN ?_ _) | (refine BlkE.leaf (by assumption) ?_; (first | rfl | (simp; done)))))
  have hB0 : Below w.heap.size w ((w.alloc (.cells #[.slice A t.length cap] 24)).alloc (.cells #[.int .i64 0, .int .i64 0] 34)) := by (repeat (first | (with_reducible refine bx_alloc ?_ _) | (with_reducible refine below_setCell ?_ (by first | (simp; done) | (simp; omega) | omega)) | (with_reducible refine below_drew ?_) | (with_reducible refine below_drewN ?_ _) | (with_reducible assumption) | (with_reducible exact Below.refl _ _)))
  have hd := track_any t A cap _ (HT.out.below hB0) hf (by omega)
  unfold Gives vT at hd
  go_enter Try.func28, Try.ntmps28
  cases hv : valid t
  · have hd1 : slopeT t i = ⟨0, 0⟩ := by simp [slopeT, hv]
    have hd3 : errS t i = 10 := by simp [errS, hv]
    rw [hd1, hd3]
    rw [hv] at hd
    go_wp2_with (go_at_call 51; refine hd.mono ?_; rintro e w1 ⟨rfl, hb1⟩; have x0 := k0.past hb1; have x1 := k1.past hb1; have hB1 := below_step hB0 hb1; clear hb1; obtain ⟨c0, f0, l0⟩ := x0.facts; obtain ⟨c1, f1, l1⟩ := x1.facts)
    refine bodyPost_ret (results_spt (x := .int .i64 0) (y := .int .i64 0) rfl rfl ?_) rfl ⟨rfl, ?_⟩
    · (refine blkE ?_; repeat (first | (with_reducible refine BlkE.new_ (by first | (simp; done) | (simp; omega) | omega) ?_; (first | rfl | (simp; done))) | (with_reducible refine BlkE.alloc ?_ _) | (with_reducible refine BlkE.far ?_ _ (by first | (simp; done) | (simp; omega) | omega)) | (with_reducible refine BlkE.set_ ?_ (by first | (simp; done) | (simp; omega) | omega)) | (with_reducible refine BlkE.drew ?_) | (with_reducible refine BlkE.drewN ?_ _) | (refine BlkE.leaf (by assumption) ?_; (first | rfl | (simp; done)))))
    · (repeat (first | (with_reducible refine bx_alloc ?_ _) | (with_reducible refine below_setCell ?_ (by first | (simp; done) | (simp; omega) | omega)) | (with_reducible refine below_drew ?_) | (with_reducible refine below_drewN ?_ _) | (with_reducible assumption) | (with_reducible exact Below.refl _ _)))
  · rw [hv] at hd
    cases h1 : inB 0 (t.length - 1) i
    · have hd1 : slopeT t i = ⟨0, 0⟩ := by simp [slopeT, h1]
      have hd3 : errS t i = 2 := by simp [errS, hv, h1]
      rw [hd1, hd3]
      have h3 := Lib.hid h1
      clear h1
      go_wp2_with (first | (go_at_call 51; refine hd.mono ?_; rintro e w1 ⟨rfl, hb1⟩; have x0 := k0.past hb1; have x1 := k1.past hb1; have hB1 := below_step hB0 hb1; clear hb1; obtain ⟨c0, f0, l0⟩ := x0.facts; obtain ⟨c1, f1, l1⟩ := x1.facts) | (go_at_call 61; refine (within_any _ _ _ _).mono ?_; rintro e w2 ⟨rfl, hb2⟩; rw [h3.out]; clear c0 f0 c1 f1 l0 l1; replace x0 := x0.past hb2; replace x1 := x1.past hb2; replace hB1 := below_step hB1 hb2; clear hb2; obtain ⟨c0, f0, l0⟩ := x0.facts; obtain ⟨c1, f1, l1⟩ := x1.facts))
      refine bodyPost_ret (results_spt (x := .int .i64 0) (y := .int .i64 0) rfl rfl ?_) rfl ⟨rfl, ?_⟩
      · (refine blkE ?_; repeat (first | (with_reducible refine BlkE.new_ (by first | (simp; done) | (simp; omega) | omega) ?_; (first | rfl | (simp; done))) | (with_reducible refine BlkE.alloc ?_ _) | (with_reducible refine BlkE.far ?_ _ (by first | (simp; done) | (simp; omega) | omega)) | (with_reducible refine BlkE.set_ ?_ (by first | (simp; done) | (simp; omega) | omega)) | (with_reducible refine BlkE.drew ?_) | (with_reducible refine BlkE.drewN ?_ _) | (refine BlkE.leaf (by assumption) ?_; (first | rfl | (simp; done)))))
      · (repeat (first | (with_reducible refine bx_alloc ?_ _) | (with_reducible refine below_setCell ?_ (by first | (simp; done) | (simp; omega) | omega)) | (with_reducible refine below_drew ?_) | (with_reducible refine below_drewN ?_ _) | (with_reducible assumption) | (with_reducible exact Below.refl _ _)))
    · have h5 := inB_iff.1 h1
      obtain ⟨I, rfl⟩ := Int.eq_ofNat_of_zero_le h5.1
      have hlt : I < t.length := by omega
      have hok := valid_okay hv t[I] (List.getElem_mem hlt)
      have hd1 : slopeT t I = slopeOf t[I] := by simp [slopeT, hv, h1, hlt]
      have hd3 : errS t I = 0 := by simp [errS, hv, h1]
      rw [hd1, hd3]
      have h3 := Lib.hid h1
      obtain ⟨b, o, rfl, hblt, hc⟩ := HT.out.at_ hlt
      clear h1 hd1 hd3 h5
      generalize t[I] = s at hc hok
      have e0 := hc 0 _ rfl
      have e1 := hc 1 _ rfl
      have e2 := hc 2 _ rfl
      have e3 := hc 3 _ rfl
      have e4 := hc 4 _ rfl
      have e5 := hc 5 _ rfl
      have e6 := hc 6 _ rfl
      have e7 := hc 7 _ rfl
      have e8 := hc 8 _ rfl
      simp only [Nat.add_zero] at e0
      clear hc
      obtain ⟨z1, z2, z3, z4, z5, z6, z7, z8⟩ := hok
      have hi0 : (0:Int) ≤ I := by omega
      have hi1 : (I:Int) < t.length := by omega
      go_wp2_with (first | (go_at_call 51; refine hd.mono ?_; rintro e w1 ⟨rfl, hb1⟩; have x0 := k0.past hb1; have x1 := k1.past hb1; have hB1 := below_step hB0 hb1; clear hb1; obtain ⟨c0, f0, l0⟩ := x0.facts; obtain ⟨c1, f1, l1⟩ := x1.facts) | (go_at_call 61; refine (within_any _ _ _ _).mono ?_; rintro e w2 ⟨rfl, hb2⟩; rw [h3.out]; clear c0 f0 c1 f1 l0 l1; replace x0 := x0.past hb2; replace x1 := x1.past hb2; replace hB1 := below_step hB1 hb2; have cB := (bcell hB1).1; have fB := (bcell hB1).2; clear hb2; obtain ⟨c0, f0, l0⟩ := x0.facts; obtain ⟨c1, f1, l1⟩ := x1.facts))
      generalize hX : w2.alloc (.cells #[.int .i64 s.id, .int .i64 s.long.lo, .int .i64 s.long.hi, .int .i64 s.fall.lo, .int .i64 s.fall.hi, .int .i64 s.radius.lo, .int .i64 s.radius.hi, .int .u8 s.side, .int .i64 s.wall] 82) = X
      have y1 : Blk X (w.heap.size + 1) #[.int .i64 0, .int .i64 0] := by rw [← hX]; (refine blkE ?_; repeat (first | (with_reducible refine BlkE.new_ (by first | (simp; done) | (simp; omega) | omega) ?_; (first | rfl | (simp; done))) | (with_reducible refine BlkE.alloc ?_ _) | (with_reducible refine BlkE.far ?_ _ (by first | (simp; done) | (simp; omega) | omega)) | (with_reducible refine BlkE.set_ ?_ (by first | (simp; done) | (simp; omega) | omega)) | (with_reducible refine BlkE.drew ?_) | (with_reducible refine BlkE.drewN ?_ _) | (refine BlkE.leaf (by assumption) ?_; (first | rfl | (simp; done)))))
      have y2 : Blk X w2.heap.size #[.int .i64 s.id, .int .i64 s.long.lo, .int .i64 s.long.hi, .int .i64 s.fall.lo, .int .i64 s.fall.hi, .int .i64 s.radius.lo, .int .i64 s.radius.hi, .int .u8 s.side, .int .i64 s.wall] := by rw [← hX]; (refine blkE ?_; repeat (first | (with_reducible refine BlkE.new_ (by first | (simp; done) | (simp; omega) | omega) ?_; (first | rfl | (simp; done))) | (with_reducible refine BlkE.alloc ?_ _) | (with_reducible refine BlkE.far ?_ _ (by first | (simp; done) | (simp; omega) | omega)) | (with_reducible refine BlkE.set_ ?_ (by first | (simp; done) | (simp; omega) | omega)) | (with_reducible refine BlkE.drew ?_) | (with_reducible refine BlkE.drewN ?_ _) | (refine BlkE.leaf (by assumption) ?_; (first | rfl | (simp; done)))))
      have hBX : Below w.heap.size w X := by rw [← hX]; (repeat (first | (with_reducible refine bx_alloc ?_ _) | (with_reducible refine below_setCell ?_ (by first | (simp; done) | (simp; omega) | omega)) | (with_reducible refine below_drew ?_) | (with_reducible refine below_drewN ?_ _) | (with_reducible assumption) | (with_reducible exact Below.refl _ _)))
      have g1 : w2.heap.size ≠ w.heap.size + 1 := by omega
      clear hX hB1 x0 x1 c0 f0 c1 f1 e0 e1 e2 e3 e4 e5 e6 e7 e8 cB fB
      obtain ⟨c1, f1, l1⟩ := y1.facts
      obtain ⟨c2, f2, l2⟩ := y2.facts
      have n1 : s.long.hi ≠ 0 := by omega
      have n2 : s.long.lo ≠ 0 := by omega
      go_region
      all_goals
        go_wp2
        refine bodyPost_ret (results_spt (x := .int .i64 (s.fall.lo * 1000 / s.long.hi)) (y := .int .i64 ((s.fall.hi * 1000 + s.long.lo - 1) / s.long.lo)) rfl rfl ?_) rfl ⟨rfl, ?_⟩
        · (refine blkE ?_; repeat (first | (with_reducible refine BlkE.new_ (by first | (simp; done) | (simp; omega) | omega) ?_; (first | rfl | (simp; done))) | (with_reducible refine BlkE.alloc ?_ _) | (with_reducible refine BlkE.far ?_ _ (by first | (simp; done) | (simp; omega) | omega)) | (with_reducible refine BlkE.set_ ?_ (by first | (simp; done) | (simp; omega) | omega)) | (with_reducible refine BlkE.drew ?_) | (with_reducible refine BlkE.drewN ?_ _) | (refine BlkE.leaf (by assumption) ?_; (first | rfl | (simp; done)))))
        · (repeat (first | (with_reducible refine bx_alloc ?_ _) | (with_reducible refine below_setCell ?_ (by first | (simp; done) | (simp; omega) | omega)) | (with_reducible refine below_drew ?_) | (with_reducible refine below_drewN ?_ _) | (with_reducible assumption) | (with_reducible exact Below.refl _ _)))
end Go.Proofs.Ytekjkaoibcfgfaa
/- Slope of the program. -/
namespace Go.Proofs.Ytekjkaoibcfgfaa
set_option linter.unusedVariables false
open Go.RowKit
set_option linter.unusedSimpArgs false
set_option maxRecDepth 20000

set_option maxHeartbeats 4000000 in
theorem slope_any (t : List St) (A : Option Addr) (cap : Nat) (i : Int) (w : World) (ht : SlAt encSt 9 w A t) (hf : FitT t) (hl : t.length ≤ 1000) :
    Gives 27 #[vT A t.length cap, .int .i64 i] w (.tuple #[vSp (slopeT t i), .int .i64 (errS t i)]) := by
  unfold Gives vT
  have HT := Lib.hid ht
  clear ht
  have k0 : Blk ((w.alloc (.cells #[.slice A t.length cap] 24)).alloc (.cells #[.int .i64 0, .int .i64 0] 34)) w.heap.size #[.slice A t.length cap] := by (refine blkE ?_; repeat (first | (with_reducible refine BlkE.new_ (by first | (simp; done) | (simp; omega) | omega) ?_; (first | rfl | (simp; done))) | (with_reducible refine BlkE.alloc ?_ _) | (with_reducible refine BlkE.far ?_ _ (by first | (simp; done) | (simp; omega) | omega)) | (with_reducible refine BlkE.set_ ?_ (by first | (simp; done) | (simp; omega) | omega)) | (with_reducible refine BlkE.drew ?_) | (with_reducible refine BlkE.drewN ?_ _) | (refine BlkE.leaf (by assumption) ?_; (first | rfl | (simp; done)))))
  have k1 : Blk ((w.alloc (.cells #[.slice A t.length cap] 24)).alloc (.cells #[.int .i64 0, .int .i64 0] 34)) (w.heap.size + 1) #[.int .i64 0, .int .i64 0] := by (refine blkE ?_; repeat (first | (with_reducible refine BlkE.new_ (by first | (simp; done) | (simp; omega) | omega) ?_; (first | rfl | (simp; done))) | (with_reducible refine BlkE.alloc ?_ _) | (with_reducible refine BlkE.far ?_ _ (by first | (simp; done) | (simp; omega) | omega)) | (with_reducible refine BlkE.set_ ?_ (by first | (simp; done) | (simp; omega) | omega)) | (with_reducible refine BlkE.drew ?_) | (with_reducible refine BlkE.drewN ?_ _) | (refine BlkE.leaf (by assumption) ?_; (first | rfl | (simp; done)))))
  have hB0 : Below w.heap.size w ((w.alloc (.cells #[.slice A t.length cap] 24)).alloc (.cells #[.int .i64 0, .int .i64 0] 34)) := by (repeat (first | (with_reducible refine bx_alloc ?_ _) | (with_reducible refine below_setCell ?_ (by first | (simp; done) | (simp; omega) | omega)) | (with_reducible refine below_drew ?_) | (with_reducible refine below_drewN ?_ _) | (with_reducible assumption) | (with_reducible exact Below.refl _ _)))
  have hd := check_any t A cap _ (HT.out.below hB0) hf (by omega)
  unfold Gives vT at hd
  go_enter Try.func27, Try.ntmps27
  cases hv : valid t
  · have hd1 : slopeT t i = ⟨0, 0⟩ := by simp [slopeT, hv]
    have hd3 : errS t i = 10 := by simp [errS, hv]
    rw [hd1, hd3]
    have he : errT t = 10 := by simp [errT, hv]
    simp only [hv] at hd
    go_wp2_with (go_at_call 22; refine hd.mono ?_; rintro e w1 ⟨rfl, hb1⟩; have x0 := k0.past hb1; have x1 := k1.past hb1; have hB1 := below_step hB0 hb1; clear hb1; obtain ⟨c0, f0, l0⟩ := x0.facts; obtain ⟨c1, f1, l1⟩ := x1.facts)
    refine bodyPost_ret (results_spt (x := .int .i64 0) (y := .int .i64 0) rfl rfl ?_) rfl ⟨rfl, ?_⟩
    · (refine blkE ?_; repeat (first | (with_reducible refine BlkE.new_ (by first | (simp; done) | (simp; omega) | omega) ?_; (first | rfl | (simp; done))) | (with_reducible refine BlkE.alloc ?_ _) | (with_reducible refine BlkE.far ?_ _ (by first | (simp; done) | (simp; omega) | omega)) | (with_reducible refine BlkE.set_ ?_ (by first | (simp; done) | (simp; omega) | omega)) | (with_reducible refine BlkE.drew ?_) | (with_reducible refine BlkE.drewN ?_ _) | (refine BlkE.leaf (by assumption) ?_; (first | rfl | (simp; done)))))
    · (repeat (first | (with_reducible refine bx_alloc ?_ _) | (with_reducible refine below_setCell ?_ (by first | (simp; done) | (simp; omega) | omega)) | (with_reducible refine below_drew ?_) | (with_reducible refine below_drewN ?_ _) | (with_reducible assumption) | (with_reducible exact Below.refl _ _)))
  · have he : errT t = 0 := by simp [errT, hv]
    simp only [hv] at hd
    cases h1 : inB 0 (t.length - 1) i
    · have hd1 : slopeT t i = ⟨0, 0⟩ := by simp [slopeT, h1]
      have hd3 : errS t i = 2 := by simp [errS, hv, h1]
      rw [hd1, hd3]
      have h3 := Lib.hid h1
      clear h1
      go_wp2_with (first | (go_at_call 22; refine hd.mono ?_; rintro e w1 ⟨rfl, hb1⟩; have x0 := k0.past hb1; have x1 := k1.past hb1; have hB1 := below_step hB0 hb1; clear hb1; obtain ⟨c0, f0, l0⟩ := x0.facts; obtain ⟨c1, f1, l1⟩ := x1.facts) | (go_at_call 59; refine (in_one _ _ _ _ _ _ _ (by simp)).mono ?_; rintro e w2 ⟨rfl, hb2⟩; rw [h3.out]; clear c0 f0 c1 f1 l0 l1; replace x0 := (Blk.alloc x0 _).past hb2; replace x1 := (Blk.alloc x1 _).past hb2; replace hB1 := below_step (bx_alloc hB1 _) hb2; clear hb2; obtain ⟨c0, f0, l0⟩ := x0.facts; obtain ⟨c1, f1, l1⟩ := x1.facts))
      refine bodyPost_ret (results_spt (x := .int .i64 0) (y := .int .i64 0) rfl rfl ?_) rfl ⟨rfl, ?_⟩
      · (refine blkE ?_; repeat (first | (with_reducible refine BlkE.new_ (by first | (simp; done) | (simp; omega) | omega) ?_; (first | rfl | (simp; done))) | (with_reducible refine BlkE.alloc ?_ _) | (with_reducible refine BlkE.far ?_ _ (by first | (simp; done) | (simp; omega) | omega)) | (with_reducible refine BlkE.set_ ?_ (by first | (simp; done) | (simp; omega) | omega)) | (with_reducible refine BlkE.drew ?_) | (with_reducible refine BlkE.drewN ?_ _) | (refine BlkE.leaf (by assumption) ?_; (first | rfl | (simp; done)))))
      · (repeat (first | (with_reducible refine bx_alloc ?_ _) | (with_reducible refine below_setCell ?_ (by first | (simp; done) | (simp; omega) | omega)) | (with_reducible refine below_drew ?_) | (with_reducible refine below_drewN ?_ _) | (with_reducible assumption) | (with_reducible exact Below.refl _ _)))
    · have h5 := inB_iff.1 h1
      obtain ⟨I, rfl⟩ := Int.eq_ofNat_of_zero_le h5.1
      have hlt : I < t.length := by omega
      have hok := valid_okay hv t[I] (List.getElem_mem hlt)
      have hd1 : slopeT t I = slopeOf t[I] := by simp [slopeT, hv, h1, hlt]
      have hd3 : errS t I = 0 := by simp [errS, hv, h1]
      rw [hd1, hd3]
      have h3 := Lib.hid h1
      obtain ⟨b, o, rfl, hblt, hc⟩ := HT.out.at_ hlt
      clear h1 hd1 hd3 h5
      generalize t[I] = s at hc hok
      have e0 := hc 0 _ rfl
      have e1 := hc 1 _ rfl
      have e2 := hc 2 _ rfl
      have e3 := hc 3 _ rfl
      have e4 := hc 4 _ rfl
      have e5 := hc 5 _ rfl
      have e6 := hc 6 _ rfl
      have e7 := hc 7 _ rfl
      have e8 := hc 8 _ rfl
      simp only [Nat.add_zero] at e0
      clear hc
      obtain ⟨z1, z2, z3, z4, z5, z6, z7, z8⟩ := hok
      have hi0 : (0:Int) ≤ I := by omega
      have hi1 : (I:Int) < t.length := by omega
      have hup := up_eq (n := s.fall.hi * 1000) (d := s.long.lo) (by omega) (by omega)
      rw [Int.mul_comm s.fall.hi 1000] at hup
      have hso : slopeOf s = ⟨1000 * s.fall.lo / s.long.hi, if 0 < 1000 * s.fall.hi % s.long.lo then 1000 * s.fall.hi / s.long.lo + 1 else 1000 * s.fall.hi / s.long.lo⟩ := by
        rw [← hup]; unfold slopeOf; rw [Int.mul_comm s.fall.lo 1000, Int.mul_comm s.fall.hi 1000]
      have HSO := Lib.hid hso
      clear hso hup
      have b1 : 0 ≤ 1000 * s.fall.hi / s.long.lo := Int.ediv_nonneg (by omega) (by omega)
      have b2 : 1000 * s.fall.hi / s.long.lo ≤ 1000 * s.fall.hi := Int.ediv_le_self _ (by omega)
      go_wp2_with (first | (go_at_call 22; refine hd.mono ?_; rintro e w1 ⟨rfl, hb1⟩; have x0 := k0.past hb1; have x1 := k1.past hb1; have hB1 := below_step hB0 hb1; clear hb1; obtain ⟨c0, f0, l0⟩ := x0.facts; obtain ⟨c1, f1, l1⟩ := x1.facts) | (go_at_call 59; refine (in_one _ _ _ _ _ _ _ (by simp)).mono ?_; rintro e w2 ⟨rfl, hb2⟩; rw [h3.out]; clear c0 f0 c1 f1 l0 l1; replace x0 := (Blk.alloc x0 _).past hb2; replace x1 := (Blk.alloc x1 _).past hb2; replace hB1 := below_step (bx_alloc hB1 _) hb2; have cB := (bcell hB1).1; have fB := (bcell hB1).2; clear hb2; obtain ⟨c0, f0, l0⟩ := x0.facts; obtain ⟨c1, f1, l1⟩ := x1.facts))
      · rename_i hpos
        refine bodyPost_ret (results_spt (x := .int .i64 (1000 * s.fall.lo / s.long.hi)) (y := .int .i64 (1000 * s.fall.hi / s.long.lo + 1)) rfl rfl ?_) rfl ⟨?_, ?_⟩
        · (refine blkE ?_; repeat (first | (with_reducible refine BlkE.new_ (by first | (simp; done) | (simp; omega) | omega) ?_; (first | rfl | (simp; done))) | (with_reducible refine BlkE.alloc ?_ _) | (with_reducible refine BlkE.far ?_ _ (by first | (simp; done) | (simp; omega) | omega)) | (with_reducible refine BlkE.set_ ?_ (by first | (simp; done) | (simp; omega) | omega)) | (with_reducible refine BlkE.drew ?_) | (with_reducible refine BlkE.drewN ?_ _) | (refine BlkE.leaf (by assumption) ?_; (first | rfl | (simp; done)))))
        · rw [HSO.out, if_pos (by omega)]; rfl
        · (repeat (first | (with_reducible refine bx_alloc ?_ _) | (with_reducible refine below_setCell ?_ (by first | (simp; done) | (simp; omega) | omega)) | (with_reducible refine below_drew ?_) | (with_reducible refine below_drewN ?_ _) | (with_reducible assumption) | (with_reducible exact Below.refl _ _)))
      · rename_i hpos
        refine bodyPost_ret (results_spt (x := .int .i64 (1000 * s.fall.lo / s.long.hi)) (y := .int .i64 (1000 * s.fall.hi / s.long.lo)) rfl rfl ?_) rfl ⟨?_, ?_⟩
        · (refine blkE ?_; repeat (first | (with_reducible refine BlkE.new_ (by first | (simp; done) | (simp; omega) | omega) ?_; (first | rfl | (simp; done))) | (with_reducible refine BlkE.alloc ?_ _) | (with_reducible refine BlkE.far ?_ _ (by first | (simp; done) | (simp; omega) | omega)) | (with_reducible refine BlkE.set_ ?_ (by first | (simp; done) | (simp; omega) | omega)) | (with_reducible refine BlkE.drew ?_) | (with_reducible refine BlkE.drewN ?_ _) | (refine BlkE.leaf (by assumption) ?_; (first | rfl | (simp; done)))))
        · rw [HSO.out, if_neg (by omega)]; rfl
        · (repeat (first | (with_reducible refine bx_alloc ?_ _) | (with_reducible refine below_setCell ?_ (by first | (simp; done) | (simp; omega) | omega)) | (with_reducible refine below_drew ?_) | (with_reducible refine below_drewN ?_ _) | (with_reducible assumption) | (with_reducible exact Below.refl _ _)))
end Go.Proofs.Ytekjkaoibcfgfaa
