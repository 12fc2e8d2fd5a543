/- Check of the program, Track and Check of the reference. -/
import Derived.Test.YtdigopgncfhiaaaDoorEqs
namespace Go.Proofs.YtdigopgncfhiaaaDoor
set_option linter.unusedVariables false
open Go.RowKit
set_option linter.unusedSimpArgs false

set_option maxHeartbeats 4000000 in
theorem check_any (t : List St) (A : Option Addr) (cap : Nat) (w : World) (ht : SlAt encSt 9 w A t) (hf : FitT t) (hl : t.length ≤ 1000000) :
    Gives 77 #[vT A t.length cap] w (.int .i64 (if valid t then 0 else 10)) := by
  unfold Gives vT
  have HT := Lib.hid ht
  clear ht
  cases h1 : inB 1 12 t.length
  · have H1 := Lib.hid h1
    clear h1
    go_enter Tryd.func77, Tryd.ntmps77
    go_wp2
    go_step3
    go_wp2_with fail
    refine (in_one 1 12 t.length _ _ _ _ (by simp)).mono ?_
    rintro e w1 ⟨rfl, hb1⟩
    rw [H1.out]
    go_wp2
    rw [Exit.noGoto_ret]
    go_ret
    refine ⟨ret_of (by simp [valid, H1.out]), ?_⟩
    exact (below_alloc w _).trans (((below_alloc _ _).trans (hb1.mono (by simp <;> omega))).mono (by simp))
  · have H1 := Lib.hid h1
    clear h1
    go_enter Tryd.func77, Tryd.ntmps77
    go_wp2
    go_step3
    go_wp2_with fail
    refine (in_one 1 12 t.length _ _ _ _ (by simp)).mono ?_
    rintro e w1 ⟨rfl, hb1⟩
    rw [H1.out]
    have hB1 : Below w.heap.size w w1 := (below_alloc w _).trans (((below_alloc _ _).trans (hb1.mono (by simp <;> omega))).mono (by simp))
    have hcell : w1.cell? ⟨w.heap.size, 0, none⟩ = some (.slice A t.length cap) := by rw [hb1.cell (by simp <;> omega)]; simp
    clear hb1
    go_wp2
    go_step3
    go_wp2
    go_loopw [3, 4, 18] (fun v3 v4 v18 wr => ∃ (i : Nat) (last : Int), i ≤ t.length ∧ -1 ≤ last ∧ last ≤ 9999 ∧ v18 = .int .i64 i ∧ v3 = .int .i64 last ∧ v4 = .int .i64 0 ∧ Below w.heap.size w wr ∧ Hid (okFrom (-1) t = okFrom last (t.drop i))) (fun _ _ v _ => t.length - (intOf v).toNat)
    case atStart => exact ⟨0, -1, Nat.zero_le _, by omega, by omega, rfl, rfl, rfl, hB1, by unfold Hid; simp⟩
    case round =>
      obtain ⟨i, last, hi, hl0, hl1, rfl, rfl, rfl, hB, hF⟩ := hrel
      clear hcell hB1
      by_cases hlt : i < t.length
      · obtain ⟨b, o, rfl, hblt, hc⟩ := (HT.out.below hB).at_ hlt
        have hF' : okFrom (-1) t = (stOk last t[i] && okFrom t[i].id (t.drop (i + 1))) := by
          rw [hF.out, List.drop_eq_getElem_cons hlt]; rfl
        have HF := Lib.hid hF'
        clear hF' hF
        obtain ⟨hs0, hs1⟩ := hf t[i] (List.getElem_mem hlt)
        generalize t[i] = s at hc HF hs0 hs1
        obtain ⟨id, ⟨la, lb⟩, ⟨fa, fb⟩, ⟨ra, rb⟩, sd, wl⟩ := s
        simp only at hs0 hs1
        have c0 := hc 0 _ rfl
        have c1 := hc 1 _ rfl
        have c2 := hc 2 _ rfl
        have c3 := hc 3 _ rfl
        have c4 := hc 4 _ rfl
        have c5 := hc 5 _ rfl
        have c6 := hc 6 _ rfl
        have c7 := hc 7 _ rfl
        have c8 := hc 8 _ rfl
        simp only [Nat.add_zero] at c0
        clear hc
        have hi0 : (0:Int) ≤ i := by omega
        have hi1 : (i:Int) < t.length := by omega
        go_wp2_with (first
          | (go_at_call 99; refine (in_one _ _ _ _ _ _ _ (by simp)).mono ?_; rintro e wn ⟨rfl, hbn⟩; (first | (replace hB := below_step (bx_alloc hB _) hbn; replace kb := (kb.alloc _).past hbn) | (replace hB := below_step (bx_alloc (bx_alloc hB _) _) hbn; have kb := ((Blk.new _ _ _).alloc _).past hbn)); obtain ⟨kc, kf, kl⟩ := kb.facts; clear hbn)
          | (go_at_call 114; refine (known_any ⟨_, _⟩ _ _ _).mono ?_; rintro e wn ⟨rfl, hbn⟩; replace hB := below_step hB hbn; replace kb := kb.past hbn; obtain ⟨kc, kf, kl⟩ := kb.facts; clear hbn))
        all_goals first
          | (rw [Exit.noGoto_ret]
             go_ret
             refine ⟨ret_of ?_, hB⟩
             go_light
             try simp only [Bool.not_eq_true', Bool.not_eq_false'] at *
             have e : okFrom (-1) t = false := by rw [HF.out]; simp [stOk, *]
             simp [valid, e])
          | (go_light
             try simp only [Bool.not_eq_true', Bool.not_eq_false'] at *
             have h := ‹inB (last + 1) 9999 id = true›
             rw [inB_iff] at h
             refine ⟨⟨i + 1, id, by omega, by omega, by omega, by go_num, by first | rfl | trivial, by first | rfl | trivial, hB, ?_⟩, by simp [intOf]; omega⟩
             unfold Hid
             rw [HF.out]
             simp [stOk, *])
      · go_wp2
        rw [Exit.noGoto_ret]
        go_ret
        refine ⟨ret_of ?_, hB⟩
        simp [valid, H1.out, hF.out, List.drop_eq_nil_of_le (Nat.le_of_not_lt hlt), okFrom]
end Go.Proofs.YtdigopgncfhiaaaDoor
