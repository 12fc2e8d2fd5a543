/- Comparisons of lists: SameSpans, SameInts, Same of the reference return whether the lists are equal. -/
import Derived.Test.YtekjkaoibcfgfaaEqs
namespace Go.Proofs.Ytekjkaoibcfgfaa
open Go.RowKit

theorem take_eq_full {α : Type} {a b : List α} {i : Nat} (h : a.take i = b.take i) (hl : a.length = b.length) (hi : a.length ≤ i) : a = b := by
  rwa [List.take_of_length_le hi, List.take_of_length_le (by omega)] at h
theorem take_eq_succ {α : Type} {a b : List α} {i : Nat} (h : a.take i = b.take i) (ha : i < a.length) (hb : i < b.length) (he : a[i] = b[i]) : a.take (i + 1) = b.take (i + 1) := by
  rw [List.take_succ_eq_append_getElem ha, List.take_succ_eq_append_getElem hb, h, he]
theorem ne_of_getElem {α : Type} {a b : List α} {i : Nat} (ha : i < a.length) (hb : i < b.length) (he : a[i] ≠ b[i]) : a ≠ b := by
  rintro rfl; exact he rfl

set_option maxHeartbeats 1000000 in
theorem same_spans (a b : List Sp) (A B : Option Addr) (c d : Nat) (w : World) (ha : SlAt encSp 2 w A a) (hb : SlAt encSp 2 w B b) (hla : a.length ≤ 1000000) (hlb : b.length ≤ 1000000) :
    Gives 24 #[.slice A a.length c, .slice B b.length d] w (.bool (decide (a = b))) := by
  unfold Gives
  have HA := Lib.hid ha
  have HB := Lib.hid hb
  clear ha hb
  by_cases hl : a.length = b.length
  · have hL := Lib.hid hl
    have hlt0 : b.length ≤ a.length := by omega
    have hlt1 : a.length ≤ b.length := by omega
    clear hl
    go_enter Try.func24, Try.ntmps24
    go_wp2
    go_loopw [5] (fun v wr => ∃ i : Nat, i ≤ a.length ∧ v = .int .i64 i ∧ Below w.heap.size w wr ∧ Hid (a.take i = b.take i)) (fun v _ => a.length - (intOf v).toNat)
    case atStart => exact ⟨0, Nat.zero_le _, rfl, Below.refl _ _, by unfold Hid; simp⟩
    case round =>
      obtain ⟨i, hi, rfl, hBw, hF⟩ := hrel
      by_cases hlt : i < a.length
      · have hltb : i < b.length := by omega
        obtain ⟨b1, o1, rfl, hb1, hc1⟩ := (HA.out.below hBw).at_ hlt
        obtain ⟨b2, o2, rfl, hb2, hc2⟩ := (HB.out.below hBw).at_ hltb
        have c1 := hc1 0 _ rfl
        have c2 := hc1 1 _ rfl
        have c3 := hc2 0 _ rfl
        have c4 := hc2 1 _ rfl
        simp only [Nat.add_zero] at c1 c3
        clear hc1 hc2
        have hi0 : (0:Int) ≤ i := by omega
        have hi1 : (i:Int) < a.length := by omega
        have hi2 : (i:Int) < b.length := by omega
        by_cases he : a[i] = b[i]
        · have hq : eqSp ⟨a[i].lo, a[i].hi⟩ ⟨b[i].lo, b[i].hi⟩ = true := by unfold eqSp; exact decide_eq_true he
          have HE := Lib.hid he
          clear he
          go_wp2_with fail
          go_quiet (fail)
          go_wp2
          go_roundw
          case rel => exact ⟨i + 1, by omega, by go_num, below_drewN hBw _, take_eq_succ hF.out hlt hltb HE.out⟩
          case measure => simp [intOf]; omega
        · have hq : eqSp ⟨a[i].lo, a[i].hi⟩ ⟨b[i].lo, b[i].hi⟩ = false := by unfold eqSp; exact decide_eq_false he
          have HE := Lib.hid he
          clear he
          go_wp2_with fail
          go_quiet (fail)
          go_wp2
          go_ret
          exact ⟨ret_of (by simp [ne_of_getElem hlt hltb HE.out]), below_drewN hBw _⟩
      · go_wp2
        go_ret
        exact ⟨ret_of (by rw [take_eq_full hF.out hL.out (by omega)]; simp), hBw⟩
  · go_enter Try.func24, Try.ntmps24
    go_wp2
    go_ret
    exact ⟨ret_of (by simp; rintro rfl; exact hl rfl), Below.refl _ _⟩
end Go.Proofs.Ytekjkaoibcfgfaa
