/- T.Marks: the row of the sums up to each mark. -/
import Derived.Test.YtekjkaoibcfgfaaMarks1
import Derived.Test.YtekjkaoibcfgfaaOpen
import Derived.Test.YtekjkaoibcfgfaaRow
namespace Go.Proofs.Ytekjkaoibcfgfaa
open Go.RowKit
set_option linter.unusedSimpArgs false
set_option maxRecDepth 20000
attribute [local go_sem] Oper.semAt_some

/-- v is a new slice of the xs. -/
def Gets {α : Type} (base : Nat) (enc : α → List Value) (k : Nat) (w : World) (v : Value) (xs : List α) : Prop := ∃ A c, v = .slice A xs.length c ∧ SlAt enc k w A xs ∧ ∀ b o, A = some ⟨b, o, none⟩ → base ≤ b ∧ b < w.heap.size
theorem Gets.nil {α : Type} {base : Nat} {enc : α → List Value} {k : Nat} {w : World} : Gets base enc k w (.slice none 0 0) ([] : List α) := ⟨none, 0, rfl, SlAt.nil, by simp⟩
theorem Row.gets {α : Type} {enc : α → List Value} {k : Nat} {e : TypeId} {base : Nat} {w : World} {v : Value} {xs : List α} (h : Row enc k e base w v xs) (henc : ∀ x, (enc x).length = k) {base' : Nat} (hb : base' ≤ base) : Gets base' enc k w v xs := by
  obtain ⟨A, c, rfl, hs⟩ := h.slAt henc
  refine ⟨A, c, rfl, hs, ?_⟩
  rintro b o rfl
  have := h.lt b rfl
  omega

theorem vmarks_any (A : Option Addr) (n c : Nat) (f : Int) (w : World) :
    Calls Try.prog 57 #[.agg #[.slice A n c], .int .i64 f] w fun e w' => e = .returned (.func (.func 85) #[] #[.pointer (some ⟨w.heap.size + 1, 0, none⟩), .pointer (some ⟨w.heap.size, 0, none⟩)]) ∧ w' = (w.alloc (.cells #[.slice A n c] 102)).alloc (.cells #[.int .i64 f] 3) := by
  go_enter Try.func57, Try.ntmps57
  go_wp2
  go_ret
  exact ⟨rfl, rfl⟩

def marksT (t : List St) : List Sp := if valid t then marks t else []

set_option maxHeartbeats 4000000 in
theorem marks_any (t : List St) (A : Option Addr) (cap : Nat) (w : World) (ht : SlAt encSt 9 w A t) (hf : FitT t) (hl : t.length ≤ 1000000) :
    Does 18 #[vT A t.length cap] w (fun u w' => ∃ v, u = .tuple #[v, .int .i64 (errT t)] ∧ Gets w.heap.size encSp 2 w' v (marksT t)) := by
  unfold Does vT
  have HT := Lib.hid ht
  clear ht
  refine (callsIn_wide (n := 10)).1 ?_
  refine callsIn_of_wp_marks Try.func18 rfl trivial ?_ rfl
  refine wpIn_wide.2 ?_
  simp only [Try.ntmps18, List.size_toArray, List.length_cons, List.length_nil, Nat.reduceAdd, Nat.reduceSub, Array.replicate_succ, Array.replicate_zero, List.push_toArray, List.append_toArray, List.nil_append, List.cons_append]
  have ho := open_any t A cap (w.alloc (.cells #[.slice A t.length cap] 24)) (HT.out.alloc _) hf hl
  unfold Gives vT at ho
  cases hv : valid t
  · have he : errT t = 10 := by simp [errT, hv]
    rw [he] at ho ⊢
    go_wp2_with (go_at_call 56; refine ho.mono ?_; rintro e w1 ⟨rfl, hb1⟩)
    refine leaves_none (v := .tuple #[.slice none 0 0, .int .i64 10]) (by simp [results, go_sem]) ⟨_, rfl, bx_alloc (below_step (below_alloc _ _) hb1) _, _, rfl, ?_⟩
    simp only [marksT, hv]
    exact Gets.nil
  · have he : errT t = 0 := by simp [errT, hv]
    rw [he] at ho ⊢
    go_wp2_with (first | (go_at_call 56; refine ho.mono ?_; rintro e w1 ⟨rfl, hb1⟩) | (go_at_call 57; refine (vmarks_any _ _ _ _ _).mono ?_; rintro e w2 ⟨rfl, rfl⟩))
    have hB0 : Below w.heap.size w w1 := below_step (below_alloc _ _) hb1
    have hs1 : w.heap.size < w1.heap.size := by have := hb1.size; simp at this; omega
    generalize hW : ((((w1.alloc (.cells #[.slice A t.length cap] 102)).alloc (.cells #[.slice none 0 0] 27)).alloc (.cells #[.slice A t.length cap] 102)).alloc (.cells #[.int .i64 0] 3)) = W
    have z6 : Blk W (w1.heap.size + 1) #[.slice none 0 0] := by rw [← hW]; (refine blkE ?_; repeat (first | (with_reducible refine BlkE.new_ (by first | (simp; done) | (simp; omega) | omega) ?_; (first | rfl | (simp; done))) | (with_reducible refine BlkE.alloc ?_ _) | (with_reducible refine BlkE.far ?_ _ (by first | (simp; done) | (simp; omega) | omega)) | (with_reducible refine BlkE.set_ ?_ (by first | (simp; done) | (simp; omega) | omega)) | (with_reducible refine BlkE.drew ?_) | (with_reducible refine BlkE.drewN ?_ _) | (refine BlkE.leaf (by assumption) ?_; (first | rfl | (simp; done)))))
    have z7 : Blk W (w1.heap.size + 2) #[.slice A t.length cap] := by rw [← hW]; (refine blkE ?_; repeat (first | (with_reducible refine BlkE.new_ (by first | (simp; done) | (simp; omega) | omega) ?_; (first | rfl | (simp; done))) | (with_reducible refine BlkE.alloc ?_ _) | (with_reducible refine BlkE.far ?_ _ (by first | (simp; done) | (simp; omega) | omega)) | (with_reducible refine BlkE.set_ ?_ (by first | (simp; done) | (simp; omega) | omega)) | (with_reducible refine BlkE.drew ?_) | (with_reducible refine BlkE.drewN ?_ _) | (refine BlkE.leaf (by assumption) ?_; (first | rfl | (simp; done)))))
    have z8 : Blk W (w1.heap.size + 3) #[.int .i64 0] := by rw [← hW]; (refine blkE ?_; repeat (first | (with_reducible refine BlkE.new_ (by first | (simp; done) | (simp; omega) | omega) ?_; (first | rfl | (simp; done))) | (with_reducible refine BlkE.alloc ?_ _) | (with_reducible refine BlkE.far ?_ _ (by first | (simp; done) | (simp; omega) | omega)) | (with_reducible refine BlkE.set_ ?_ (by first | (simp; done) | (simp; omega) | omega)) | (with_reducible refine BlkE.drew ?_) | (with_reducible refine BlkE.drewN ?_ _) | (refine BlkE.leaf (by assumption) ?_; (first | rfl | (simp; done)))))
    have hB : Below w.heap.size w W := by rw [← hW]; (repeat (first | (with_reducible refine bx_alloc ?_ _) | (with_reducible refine below_setCell ?_ (by first | (simp; done) | (simp; omega) | omega)) | (with_reducible refine below_drew ?_) | (with_reducible refine below_drewN ?_ _) | (with_reducible assumption) | (with_reducible exact Below.refl _ _)))
    have hs : W.heap.size = w1.heap.size + 4 := by rw [← hW]; simp
    refine (wpIn_wide (n := 10)).1 ?_
    have hlen := valid_len hv
    refine range_law (gf := 85) (lb := #[.pointer (some ⟨w1.heap.size + 3, 0, none⟩), .pointer (some ⟨w1.heap.size + 2, 0, none⟩)]) rfl (enters Try.func85 rfl rfl) (marks1_iter t A cap 0 _ _ (valid_okay hv) (Nat.zero_le _) (by omega)) (fun _ => rfl)
      (fun k W' => ∃ v, Row encSp 2 34 (W.heap.size + 4) W' v ((List.range k).map (mark t)) ∧ Blk W' (w1.heap.size + 1) #[v] ∧ Blk W' (w1.heap.size + 2) #[.slice A t.length cap] ∧ Blk W' (w1.heap.size + 3) #[.int .i64 0] ∧ Below w.heap.size w W')
      (fun _ _ _ => False) ?_ (fun _ _ _ _ h _ => h) ?_ ?_ ?_ ?_ (fun _ _ _ _ h => h.elim)
    · rintro k W1 W2 ⟨v, h1, h2, h3, h4, h5⟩ ho
      exact ⟨v, h1.off ho (by omega), h2.off ho (by omega), h3.off ho (by omega), h4.off ho (by omega), below_offs h5 ho (by have := hB.size; omega) h5.size⟩
    · rintro k W' ⟨v, h1, h2, h3, h4, h5⟩
      exact ⟨h4, h3, HT.out.below h5⟩
    · exact ⟨_, Row.nil, z6, z7, z8, hB⟩
    · intro l k W' hk ⟨v, h1, h2, h3, h4, h5⟩ hsz K hK
      clear hW z6 z7 z8 hB ho hb1
      obtain ⟨c6, f6, l6⟩ := h2.facts
      unfold vSp
      gi_wp2
      refine hK _ _ (on_alloc _ _ hsz) (fun W2 ho => ?_)
      clear hK c6 f6 l6
      have hw2 := hB0.size
      have hsz2 := ho.size
      have y7 : Blk W2 W'.heap.size #[.int .i64 (longBetween t 0 k).lo, .int .i64 (longBetween t 0 k).hi] := (Blk.new _ _ _).off' ho (by omega)
      have y1 := (h1.alloc (.cells #[.int .i64 (longBetween t 0 k).lo, .int .i64 (longBetween t 0 k).hi] 34)).off ho (by omega)
      have y2 := (h2.alloc (.cells #[.int .i64 (longBetween t 0 k).lo, .int .i64 (longBetween t 0 k).hi] 34)).off ho (by omega)
      have y3 := (h3.alloc (.cells #[.int .i64 (longBetween t 0 k).lo, .int .i64 (longBetween t 0 k).hi] 34)).off ho (by omega)
      have y4 := (h4.alloc (.cells #[.int .i64 (longBetween t 0 k).lo, .int .i64 (longBetween t 0 k).hi] 34)).off ho (by omega)
      have y5 := below_offs (bx_alloc h5 (.cells #[.int .i64 (longBetween t 0 k).lo, .int .i64 (longBetween t 0 k).hi] 34)) ho (by omega) (by simp; omega)
      simp at hsz2
      clear ho h1 h2 h3 h4 h5
      obtain ⟨c6, f6, l6⟩ := y2.facts
      obtain ⟨c7, f7, l7⟩ := y7.facts
      have Y1 := Lib.hid y1
      clear y1
      gi_wp2_with (gi_at_builtin; refine listIn_append elem_sp rfl _ _ rfl (base := W.heap.size + 4) rfl (Y1.out.alloc _) (mark t k) rfl one_sp rfl (Blk.new' rfl) ?c1 ?c2 ?c3 ?_)
      case c1 => unfold maxLen; simp; omega
      case c2 => simp; omega
      case c3 => simp; omega
      intro v' w' r1 r2
      obtain ⟨A', c', rfl⟩ := r1.form
      have x2 := (y2.alloc (.cells #[.int .i64 (longBetween t 0 k).lo, .int .i64 (longBetween t 0 k).hi] 34)).grown r2 (Y1.out.own_ne (by omega))
      have x3 := (y3.alloc (.cells #[.int .i64 (longBetween t 0 k).lo, .int .i64 (longBetween t 0 k).hi] 34)).grown r2 (Y1.out.own_ne (by omega))
      have x4 := (y4.alloc (.cells #[.int .i64 (longBetween t 0 k).lo, .int .i64 (longBetween t 0 k).hi] 34)).grown r2 (Y1.out.own_ne (by omega))
      have x5 := below_grown (bx_alloc y5 (.cells #[.int .i64 (longBetween t 0 k).lo, .int .i64 (longBetween t 0 k).hi] 34)) r2 (fun g hg => by have := (Y1.out.lt g hg).1; omega) (by simp; omega)
      have hon : On W.heap.size (W.heap.size + 2 + 2) W2 w' := (on_alloc W2 _ (by omega)).trans (on_grown r2 (by simp; omega) (fun g hg => by have := (Y1.out.lt g hg).1; omega))
      obtain ⟨e6, g6, m6⟩ := x2.facts
      have R1 := Lib.hid r1
      clear r1 r2 y2 y3 y4 y5 y7 c6 f6 c7 f7 l6 l7
      gi_wp2
      refine ⟨hon.trans (on_setCell _ _ (by simp; omega)), .slice A' (k + 1) c', ?_, ?_, ?_, ?_, ?_⟩
      · have q := R1.out
        simp only [List.length_append, List.length_map, List.length_range, List.length_cons, List.length_nil, Nat.zero_add] at q
        rw [hs, List.range_succ, List.map_append]
        exact q.setCell _ (by first | (simp; omega) | simp | omega)
      · exact (x2.set_ 0 _).cast (by simp)
      · exact x3.far (by simp) _
      · exact x4.far (by simp) _
      · exact x5.setCell (by simp; omega) _
    · rintro W' ⟨v, h1, h2, h3, h4, h5⟩ hD hsz
      obtain ⟨c6, f6, l6⟩ := h2.facts
      go_wp2
      have ho := off_putObj W' (.deferred none) (lo := W.heap.size) (hi := W.heap.size + 1) (Nat.le_refl _) (by omega)
      refine leaves_range hD (v := .tuple #[v, .int .i64 0]) (by simp [results, go_sem]) ⟨_, rfl, below_offs h5 ho hB.size h5.size, v, rfl, ?_⟩
      have hr := (h1.off ho (by omega)).gets len_sp (base' := w.heap.size) (by have := hB.size; omega)
      rw [show t.length + 1 - 0 = t.length + 1 by omega] at hr
      simpa [marksT, hv, marks] using hr
end Go.Proofs.Ytekjkaoibcfgfaa
