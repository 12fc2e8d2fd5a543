/- plus, open, marks: the sums up to marks. -/
import Derived.Test.YtekjkaoibcfgfaaCheck
import Derived.Test.YtekjkaoibcfgfaaRng
import Derived.Test.YtekjkaoibcfgfaaGrow
namespace Go.Proofs.Ytekjkaoibcfgfaa
open Go.RowKit
set_option linter.unusedSimpArgs false

set_option maxHeartbeats 2000000 in
theorem plus_any (a : Sp) (more : List Sp) (A : Option Addr) (c : Nat) (w : World) (hm : SlAt encSp 2 w A more) (ha : near 1000000000000 a) (hn : ∀ x ∈ more, near 1000000000 x) (hl : more.length ≤ 100) :
    Gives 70 #[vSp a, .slice A more.length c] w (vSp (more.foldl addSp a)) := by
  unfold Gives vSp
  have HM := Lib.hid hm
  clear hm
  obtain ⟨ha1, ha2, ha3, ha4⟩ := ha
  go_enter Try.func70, Try.ntmps70
  go_wp2
  go_loopw [9] (fun v wr => ∃ (i : Nat) (s : Sp), i ≤ more.length ∧ v = .int .i64 i ∧ near (1000000000000 + 1000000000 * i) s ∧ Blk wr w.heap.size #[.int .i64 s.lo, .int .i64 s.hi] ∧ Blk wr (w.heap.size + 1) #[.int .i64 0, .int .i64 0] ∧ Below w.heap.size w wr ∧ Hid (more.foldl addSp a = (more.drop i).foldl addSp s)) (fun v _ => more.length - (intOf v).toNat)
  case atStart => exact ⟨0, a, Nat.zero_le _, rfl, ⟨by omega, by omega, by omega, by omega⟩, (Blk.new _ _ _).alloc _, Blk.new' (by simp), bx_alloc (below_alloc _ _) _, by unfold Hid; simp⟩
  case round =>
    obtain ⟨i, s, hi, rfl, ⟨n1, n2, n3, n4⟩, hk, hk4, hB, hF⟩ := hrel
    obtain ⟨kc, kf, kl⟩ := hk.facts
    obtain ⟨qc, qf, ql⟩ := hk4.facts
    by_cases hlt : i < more.length
    · obtain ⟨b, o, rfl, hblt, hc⟩ := (HM.out.below hB).at_ hlt
      have hF' : more.foldl addSp a = (more.drop (i + 1)).foldl addSp (addSp s more[i]) := by
        rw [hF.out, List.drop_eq_getElem_cons hlt]; rfl
      have HF := Lib.hid hF'
      clear hF' hF
      obtain ⟨x1, x2, x3, x4⟩ := hn more[i] (List.getElem_mem hlt)
      generalize more[i] = x at hc HF x1 x2 x3 x4
      have c0 := hc 0 _ rfl
      have c1 := hc 1 _ rfl
      simp only [Nat.add_zero] at c0
      clear hc
      have hi0 : (0:Int) ≤ i := by omega
      have hi1 : (i:Int) < more.length := by omega
      go_wp2
      go_roundw
      case rel =>
        refine ⟨i + 1, addSp s x, by omega, by go_num, ⟨by simp [addSp]; omega, by simp [addSp]; omega, by simp [addSp]; omega, by simp [addSp]; omega⟩, ?_, ?_, ?_, HF.out⟩
        · exact Blk.cast (((hk.set_ 0 _).set_ 1 _).alloc _) (by simp [addSp])
        · exact ((hk4.far (p := ⟨_, _, _⟩) (by simp) _).far (p := ⟨_, _, _⟩) (by simp) _).alloc _
        · exact bx_alloc ((hB.setCell (p := ⟨_, _, _⟩) (by simp) _).setCell (p := ⟨_, _, _⟩) (by simp) _) _
      case measure => simp [intOf]; omega
    · go_wp2
      refine bodyPost_ret (results_sp (x := .int .i64 s.lo) (y := .int .i64 s.hi) rfl rfl (Blk.cast ((hk4.set_ 0 _).set_ 1 _) (by simp))) rfl ⟨ret_of ?_, ?_⟩
      · rw [hF.out, List.drop_eq_nil_of_le (by omega)]; rfl
      · exact (hB.setCell (p := ⟨_, _, _⟩) (by simp) _).setCell (p := ⟨_, _, _⟩) (by simp) _
end Go.Proofs.Ytekjkaoibcfgfaa
