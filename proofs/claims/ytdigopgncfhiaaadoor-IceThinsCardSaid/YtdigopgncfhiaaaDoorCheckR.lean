/- Track and Check of the reference: a track is valid. -/
import Derived.Test.YtdigopgncfhiaaaDoorEqs
import Derived.Test.YtdigopgncfhiaaaDoorBase
namespace Go.Proofs.YtdigopgncfhiaaaDoor
set_option linter.unusedVariables false
open Go.RowKit
set_option linter.unusedSimpArgs false

set_option maxHeartbeats 8000000 in
theorem track_any (t : List St) (A : Option Addr) (cap : Nat) (w : World) (ht : SlAt encSt 9 w A t) (hf : FitT t) (hl : t.length ≤ 1000000) :
    Gives 102 #[vT A t.length cap] w (.bool (valid t)) := by
  unfold Gives vT
  have HT := Lib.hid ht
  clear ht
  cases h1 : inB 1 12 t.length
  · have H1 := Lib.hid h1
    clear h1
    go_enter Tryd.func102, Tryd.ntmps102
    go_wp2_with fail
    refine (within_any _ _ _ _).mono ?_
    rintro e w1 ⟨rfl, hb1⟩
    rw [H1.out]
    go_wp2
    go_ret
    exact ⟨ret_of (by simp [valid, H1.out]), below_step (below_alloc w _) hb1⟩
  · have H1 := Lib.hid h1
    clear h1
    go_enter Tryd.func102, Tryd.ntmps102
    go_wp2_with fail
    refine (within_any _ _ _ _).mono ?_
    rintro e w1 ⟨rfl, hb1⟩
    rw [H1.out]
    have hB1 : Below w.heap.size w w1 := below_step (below_alloc w _) hb1
    have kt := (Blk.new w _ _).past hb1
    clear hb1
    go_wp2
    go_loopw [3] (fun v3 wr => ∃ (i : Nat) (last : Int), i ≤ t.length ∧ -1 ≤ last ∧ last ≤ 9999 ∧ v3 = .int .i64 i ∧ Blk wr w.heap.size #[.slice A t.length cap] ∧ Below w.heap.size w wr ∧ Hid (okFrom (-1) t = okFrom last (t.drop i)) ∧ Hid (last = if i = 0 then -1 else (t.getD (i - 1) default).id)) (fun v _ => t.length - (intOf v).toNat)
    case atStart => exact ⟨0, -1, Nat.zero_le _, by omega, by omega, rfl, kt, hB1, by unfold Hid; simp, by unfold Hid; simp⟩
    case round =>
      obtain ⟨i, last, hi, hl0, hl1, rfl, hK, hB, hF, hL⟩ := hrel
      clear kt hB1
      obtain ⟨tc, tf, tl⟩ := hK.facts
      by_cases hlt : i < t.length
      · obtain ⟨b, o, rfl, hblt, hc⟩ := (HT.out.below hB).at_ hlt
        have hF' : okFrom (-1) t = (stOk last t[i] && okFrom t[i].id (t.drop (i + 1))) := by
          rw [hF.out, List.drop_eq_getElem_cons hlt]; rfl
        have HF := Lib.hid hF'
        clear hF' hF
        obtain ⟨hs0, hs1⟩ := hf t[i] (List.getElem_mem hlt)
        have hLn : t[i].id = (t.getD (i + 1 - 1) default).id := by simp [List.getElem?_eq_getElem hlt]
        have HLn := Lib.hid hLn
        clear hLn
        have hp : 0 < i → wr.cell? ⟨b, o + (i - 1) * 9, none⟩ = some (.int .i64 last) := by
          intro h0
          obtain ⟨b', o', hA, hb', hc'⟩ := (HT.out.below hB).at_ (i := i - 1) (by omega)
          cases hA
          have := hc' 0 _ rfl
          rw [hL.out, if_neg (by omega)]
          simpa [List.getElem?_eq_getElem (show i - 1 < t.length by omega)] using this
        generalize t[i] = s at hc HF hs0 hs1 HLn
        obtain ⟨id, ⟨la, lb⟩, ⟨fa, fb⟩, ⟨ra, rb⟩, sd, wl⟩ := s
        simp only at hs0 hs1
        have c0 := hc 0 _ rfl
        have c1 := hc 1 _ rfl
        have c2 := hc 2 _ rfl
        have c3 := hc 3 _ rfl
        have c4 := hc 4 _ rfl
        have c5 := hc 5 _ rfl
        have c6 := hc 6 _ rfl
        have c7 := hc 7 _ rfl
        have c8 := hc 8 _ rfl
        simp only [Nat.add_zero] at c0
        clear hc
        have hi0 : (0:Int) ≤ i := by omega
        have hi1 : (i:Int) < t.length := by omega
        have hgt : (0 < i → (i : Int) > 0) ∧ (¬ 0 < i → ¬ (i : Int) > 0) := by omega
        have hl3 : ¬ 0 < i → last = -1 := by intro h; rw [hL.out, if_pos (by omega)]
        by_cases hz : 0 < i
        all_goals
          have hc9 := hp
          simp only [hz, forall_const, not_true, not_false_iff, false_implies, true_implies] at hc9 hgt hl3
          go_wp2_with fail
          refine wp_region_grow (by kernel_rfl) (by kernel_rfl) ?_
          repeat (any_goals (first
            | go_big_quiet_step ((first | (go_at_call 103; exact grow_call (within_any _ _ _ _)) | (go_at_call 124; exact grow_call (span_any ⟨_, _⟩ _ _ _))))
            | quiet_step ((first | (go_at_call 103; exact grow_call (within_any _ _ _ _)) | (go_at_call 124; exact grow_call (span_any ⟨_, _⟩ _ _ _))))
            | (refine wpQuiet_step (fun K hK => ?_); go_simp; split <;> (refine hK _ ?_; clear hK K))))
          all_goals
            refine grow_nil (fun w2 hg => ?_)
            have hB2 := below_step (bx_alloc hB _) hg
            have kb := (Blk.new _ _ _).past hg
            obtain ⟨kc, kf, kl⟩ := kb.facts
            have hK2 := (hK.alloc (.cells #[.int .i64 id, .int .i64 la, .int .i64 lb, .int .i64 fa, .int .i64 fb, .int .i64 ra, .int .i64 rb, .int .u8 sd, .int .i64 wl] 114)).past hg
            obtain ⟨qc, qf, ql⟩ := hK2.facts
            clear hg
            go_wp2_with (go_at_call 124; refine (span_any ⟨_, _⟩ _ _ _).mono ?_; rintro e wn ⟨rfl, hbn⟩; replace hB2 := below_step hB2 hbn; replace kb := kb.past hbn; replace hK2 := hK2.past hbn; obtain ⟨kc, kf, kl⟩ := kb.facts; obtain ⟨qc, qf, ql⟩ := hK2.facts; clear hbn)
        all_goals
          have hOk := HF.out
          have hId := HLn.out
          clear HF HLn
          first
          | (go_ret
             refine ⟨ret_of ?_, hB2⟩
             go_light
             have e : stOk last ⟨id, ⟨la, lb⟩, ⟨fa, fb⟩, ⟨ra, rb⟩, sd, wl⟩ = false := by
               rw [Bool.eq_false_iff]
               intro hst
               simp only [stOk, Bool.and_eq_true, Bool.or_eq_true, inB_iff, inB_no, knownB_iff, knownB_no, eqSp_iff, decide_eq_true_eq, Bool.not_eq_true', Bool.not_eq_false', Bool.not_eq_true, beq_iff_eq, beq_eq_false_iff_ne, bne_iff_ne, bne_eq_false_iff_eq, ne_eq] at *
               omega
             simp [valid, hOk, e])
          | (go_light
             have e : stOk last ⟨id, ⟨la, lb⟩, ⟨fa, fb⟩, ⟨ra, rb⟩, sd, wl⟩ = true ∧ id ≤ 9999 ∧ -1 ≤ id := by
               simp only [stOk, Bool.and_eq_true, Bool.or_eq_true, inB_iff, inB_no, knownB_iff, knownB_no, eqSp_iff, decide_eq_true_eq, Bool.not_eq_true', Bool.not_eq_false', Bool.not_eq_true, beq_iff_eq, beq_eq_false_iff_ne, bne_iff_ne, bne_eq_false_iff_eq, ne_eq] at *
               omega
             refine ⟨⟨i + 1, id, by omega, by omega, by omega, by go_num, hK2, hB2, ?_, ?_⟩, by simp [intOf]; omega⟩
             · unfold Hid; simp [hOk, e.1]
             · unfold Hid; simpa using hId)
      · go_wp2
        go_ret
        refine ⟨ret_of ?_, hB⟩
        simp [valid, H1.out, hF.out, List.drop_eq_nil_of_le (Nat.le_of_not_lt hlt), okFrom]

theorem rcheck_any (t : List St) (A : Option Addr) (cap : Nat) (w : World) (ht : SlAt encSt 9 w A t) (hf : FitT t) (hl : t.length ≤ 1000000) :
    Gives 82 #[vT A t.length cap] w (.int .i64 (if valid t then 0 else 10)) := by
  unfold Gives vT
  have H := Lib.hid (track_any t A cap (w.alloc (.cells #[.slice A t.length cap] 24)) (ht.alloc _) hf hl)
  clear ht
  cases h : valid t
  all_goals
    have hv := Lib.hid h
    clear h
    go_enter Tryd.func82, Tryd.ntmps82
    go_wp2_with fail
    refine H.out.mono ?_
    rintro e w1 ⟨rfl, hb1⟩
    rw [hv.out]
    go_wp2
    go_ret
    exact ⟨ret_of (by simp), below_step (below_alloc w _) hb1⟩
end Go.Proofs.YtdigopgncfhiaaaDoor
