/- Ice: the order of pairs. -/
import Derived.Test.YtdigopgncfhiaaaDoorSort
import Derived.Test.YtdigopgncfhiaaaDoorV1
namespace Go.Proofs.YtdigopgncfhiaaaDoor
open Go.RowKit Go.Lib Go.Sort Go.Shelf
set_option linter.unusedSimpArgs false
set_option linter.unusedVariables false
set_option maxRecDepth 20000
def cf2 (a b c d : Int) : Int := if Lib.compareInt a c ≠ 0 then Lib.compareInt a c else Lib.compareInt b d
set_option maxHeartbeats 2000000 in
theorem compare2_any (b1 b2 : Nat) (a b c d : Int) (W : World) (h1 : W.cell? ⟨b1, 0, none⟩ = some (.int .i64 a)) (h2 : W.cell? ⟨b1, 1, none⟩ = some (.int .i64 b)) (h3 : W.cell? ⟨b2, 0, none⟩ = some (.int .i64 c)) (h4 : W.cell? ⟨b2, 1, none⟩ = some (.int .i64 d)) :
    Calls Tryd.prog 50 #[.slice (some ⟨b1, 0, none⟩) 2 2, .slice (some ⟨b2, 0, none⟩) 2 2] W fun e w' => e = .returned (.int .i64 (cf2 a b c d)) ∧ w' = W := by
  have hcon := fun x y W' => AnyG.cmp_Compare_int cmpInt x y W'
  change ∀ x y W', Calls Tryd.prog 96 _ _ _ at hcon
  unfold cf2
  generalize hr1 : Lib.compareInt a c = r1
  have k1 := hcon a c W
  have k2 := hcon b d W
  rw [hr1] at k1
  generalize Lib.compareInt b d = r2 at *
  clear hcon hr1
  go_enter Tryd.func50, Tryd.ntmps50
  go_wp2
  go_loopw [11] (fun v wr => ∃ i : Nat, i ≤ 2 ∧ v = .int .i64 i ∧ wr = W ∧ Hid (0 < i → r1 = 0) ∧ Hid (1 < i → r2 = 0)) (fun v _ => 2 - (intOf v).toNat)
  case atStart => exact ⟨0, Nat.zero_le _, rfl, rfl, fun h => absurd h (by omega), fun h => absurd h (by omega)⟩
  case round =>
    obtain ⟨i, hi, rfl, rfl, hF, hF2⟩ := hrel
    by_cases h0 : i = 0
    · subst h0
      by_cases hr : r1 = 0
      · have HR := Lib.hid hr
        subst hr
        go_wp2_with (go_at_call 96; refine k1.mono ?_; rintro e w' ⟨rfl, rfl⟩)
        exact ⟨⟨1, by omega, rfl, trivial, fun _ => trivial, fun h => absurd h (by omega)⟩, by simp [intOf]⟩
      · have HR := Lib.hid hr
        go_wp2_with (go_at_call 96; refine k1.mono ?_; rintro e w' ⟨rfl, rfl⟩)
        go_ret
        exact ⟨by simp [HR.out], rfl⟩
    · by_cases h1 : i = 1
      · subst h1
        have hr1 := hF.out (by omega)
        subst hr1
        by_cases hr : r2 = 0
        · have HR := Lib.hid hr
          subst hr
          go_wp2_with (go_at_call 96; refine k2.mono ?_; rintro e w' ⟨rfl, rfl⟩)
          exact ⟨⟨2, by omega, rfl, trivial, fun _ => trivial, fun _ => trivial⟩, by simp [intOf]⟩
        · have HR := Lib.hid hr
          go_wp2_with (go_at_call 96; refine k2.mono ?_; rintro e w' ⟨rfl, rfl⟩)
          go_ret
          exact ⟨by simp, rfl⟩
      · obtain rfl : i = 2 := by omega
        have hr1 := hF.out (by omega)
        have hr2 := hF2.out (by omega)
        subst hr1 hr2
        go_wp2
        go_ret
        exact ⟨by simp, rfl⟩
theorem run_eqIn_pr (d : Nat) (a b c e : Int) (w : World) : (Op.equalIn (d + 2) 134 (.agg #[.int .i64 a, .int .i64 b]) (.agg #[.int .i64 c, .int .i64 e])).run Tryd.prog w = .ok (decide (a = c) && decide (b = e)) w := by
  have hs : ∀ w, (Go.sizeOf 3).run Tryd.prog w = .ok 1 w := Tryd.sizeOf3
  have ha : ∀ w, (Go.isAgg 3).run Tryd.prog w = .ok false w := Tryd.isAgg3
  have e2 : ∀ (x y : Int) w, (Op.equalIn (d + 1) 3 (.int .i64 x) (.int .i64 y)).run Tryd.prog w = .ok (x == y) w := fun x y w => run_equalIn_int w d _ .i64 .i64 _ _ Tryd.underlying3
  rw [Op.equalIn]
  simp only [Sem.run_bind, run_underlying Tryd.underlying134, Result.andThen_ok, hs, Std.Legacy.Range.forIn_eq_forIn_range', Std.Legacy.Range.size, Nat.sub_zero, Nat.add_sub_cancel, Nat.div_one]
  simp only [List.range', List.forIn_cons, List.forIn_nil, Sem.run_bind, part, ha, Result.andThen_ok]
  by_cases h1 : a = c <;> by_cases h2 : b = e <;> simp [go_sem, h1, h2, e2]
/-- the order of pairs -/
def cfPr (p q : Int × Int) : Int := if p = q then 0 else cf2 p.1 p.2 q.1 q.2
set_option maxHeartbeats 2000000 in
theorem thin1_any (p q : Int × Int) (W : World) : Calls Tryd.prog 113 #[.agg #[.int .i64 p.1, .int .i64 p.2], .agg #[.int .i64 q.1, .int .i64 q.2]] W fun e w' => e = .returned (.int .i64 (cfPr p q)) ∧ ∃ n os', w' = grow (W.drewN n) os' := by
  obtain ⟨a, b⟩ := p
  obtain ⟨c, d⟩ := q
  have hcon := fun b1 b2 W h1 h2 h3 h4 => compare2_any b1 b2 a b c d W h1 h2 h3 h4
  have heq := fun w => run_eqIn_pr 9998 a b c d w
  unfold cfPr
  generalize hcf : cf2 a b c d = cf at *
  by_cases he : (a, b) = (c, d)
  · rw [if_pos he]
    rw [show (decide (a = c) && decide (b = d)) = true from by cases he; simp] at heq
    clear he hcon
    dsimp only
    go_enter Tryd.func113, Tryd.ntmps113
    go_wp2
    go_ret
    exact ⟨rfl, 0, _, by rw [alloc_eq_grow, alloc_eq_grow, grow_grow]; rfl⟩
  · rw [if_neg he]
    rw [show (decide (a = c) && decide (b = d)) = false from by simp only [Prod.mk.injEq] at he; simp; omega] at heq
    clear he
    dsimp only
    go_enter Tryd.func113, Tryd.ntmps113
    go_wp2_with fail
    go_quiet (first | (go_at_call 50; exact Calls.quiet_of_same (hcon _ _ _ (by simp [go_sem]) (by simp [go_sem]) (by simp [go_sem]) (by simp [go_sem]))))
    go_wp2
    go_ret
    exact ⟨rfl, nq, _, by rw [alloc_eq_grow, alloc_eq_grow, grow_grow]; rfl⟩
theorem ltPr_iff (p q : Int × Int) : ltOf cfPr p q = true ↔ (p.1 < q.1 ∨ (p.1 = q.1 ∧ p.2 < q.2)) := by
  obtain ⟨a, b⟩ := p
  obtain ⟨c, d⟩ := q
  unfold ltOf cfPr cf2 Lib.compareInt
  simp only [decide_eq_true_eq, Prod.mk.injEq]
  (repeat' split) <;> omega
theorem ltPr_no (p q : Int × Int) : ltOf cfPr p q = false ↔ ¬ (p.1 < q.1 ∨ (p.1 = q.1 ∧ p.2 < q.2)) := by
  rw [← ltPr_iff, Bool.not_eq_true]
theorem swoPr : SWO (ltOf cfPr) where
  irrefl x := by rw [ltPr_no]; omega
  trans x y z h1 h2 := by rw [ltPr_iff] at *; omega
  ntrans x y z h1 h2 := by rw [ltPr_no] at *; omega
theorem totPr (x y : Int × Int) (h1 : ltOf cfPr x y = false) (h2 : ltOf cfPr y x = false) : x = y := by
  rw [ltPr_no] at h1 h2
  obtain ⟨a, b⟩ := x
  obtain ⟨c, d⟩ := y
  simp only at h1 h2
  simp only [Prod.mk.injEq]; omega
def encPr (p : Int × Int) : List Value := [.int .i64 p.1, .int .i64 p.2]
instance : EncI encPr 2 := ⟨fun _ => rfl, fun p v hv => by simp [encPr] at hv; rcases hv with rfl | rfl <;> rfl⟩
/-- pairs in order -/
def sortP (l : List (Int × Int)) : List (Int × Int) := l.mergeSort fun x y => !(ltOf cfPr) y x
theorem sortP_len (l : List (Int × Int)) : (sortP l).length = l.length := by simp [sortP]
theorem cmpPr (g off size : Nat) (w : World) : CmpLays Tryd.prog 113 #[] encPr 2 cfPr g off size w := fun _ _ _ _ x y => thin1_any x y _
theorem sortWorld_other {n g b : Nat} {d : Array (Int × Int)} {os : Array Obj} {w : World} (hb : b < w.heap.size) (hne : b ≠ g) : (sortWorldK encPr 2 w g 0 n d os).heap[b]? = w.heap[b]? := by
  unfold sortWorldK grow putRowK putRow mapBlock Sort.ahead
  simp only
  rw [Array.getElem?_append_left (by simpa using hb), Array.getElem?_modify, if_neg (fun h => hne h.symm)]
theorem sortWorld_size {n g : Nat} {d : Array (Int × Int)} {os : Array Obj} {w : World} : w.heap.size ≤ (sortWorldK encPr 2 w g 0 n d os).heap.size := by
  unfold sortWorldK grow putRowK putRow mapBlock Sort.ahead
  simp
theorem holdsK_of {w : World} {g : Nat} {xs : List (Int × Int)} {tl : List Value} (hB : Blk w g (xs.flatMap encPr ++ tl).toArray) : HoldsK encPr 2 w g 0 xs.toArray := by
  intro j hj
  have hj2 : j < xs.length * 2 := by simpa using hj
  have hq : j / 2 < xs.length := by omega
  obtain ⟨z, hz⟩ : ∃ z, xs[j / 2]? = some z := ⟨_, List.getElem?_eq_getElem hq⟩
  refine ⟨?_, hB.frozen _⟩
  rw [hB.cell, get_flatK _ _ _ _ (by simpa using hj2)]
  have e1 : (xs.toArray[j / 2]!) = z := by
    rw [getElem!_pos _ _ (by simpa using hq)]
    simpa [List.getElem?_eq_getElem hq] using hz
  rw [e1]
  have hm : j % 2 < (encPr z).length := by show j % 2 < 2; omega
  have h1 := flat_at (k := 2) (enc := encPr) (fun _ => rfl) xs (j / 2) z hz (j % 2) _ (List.getElem?_eq_getElem hm)
  rw [show j / 2 * 2 + j % 2 = j by omega] at h1
  rw [getElem!_pos (encPr z) (j % 2) hm]
  simp only [Nat.zero_add, List.getElem?_toArray]
  rw [List.getElem?_append_left (List.getElem?_eq_some_iff.1 h1).1]
  exact h1
theorem sl_of_holdsK {w : World} {g : Nat} {ys : List (Int × Int)} (hg : g < w.heap.size) (h : HoldsK encPr 2 w g 0 ys.toArray) : SlAt encPr 2 w (some ⟨g, 0, none⟩) ys := by
  intro i x hx
  have hi := (List.getElem?_eq_some_iff.1 hx).1
  refine ⟨g, 0, rfl, hg, fun j v hv => ?_⟩
  have hj : j < 2 := (List.getElem?_eq_some_iff.1 hv).1
  have h1 := (h (i * 2 + j) (by simp; omega)).1
  rw [get_flatK _ _ _ _ (by simp; omega), show (i * 2 + j) / 2 = i by omega, show (i * 2 + j) % 2 = j by omega] at h1
  have e1 : (ys.toArray[i]!) = x := by
    rw [getElem!_pos _ _ (by simpa using hi)]
    simpa [List.getElem?_eq_getElem hi] using hx
  rw [e1, getElem!_pos (encPr x) j (show j < (encPr x).length from hj)] at h1
  rw [show 0 + i * 2 + j = 0 + (i * 2 + j) by omega, h1, ← hv, List.getElem?_eq_getElem (show j < (encPr x).length from hj)]
  rfl
set_option maxHeartbeats 1000000 in
theorem isort_any (xs : List (Int × Int)) (v : Value) (e : TypeId) (base : Nat) (w : World) (hl : xs.length ≤ 1000000) (ho : Own base w [.row encPr 2 e v xs]) :
    RetF Tryd.prog 112 [v, .func (.func 113) #[] #[]] w [.row encPr 2 e v xs] (fun _ : Option Addr × Nat => .tuple #[]) (fun p => [.sl encPr 2 p.1 (sortP xs)]) (fun p => v = .slice p.1 xs.length p.2) := by
  obtain ⟨h1, h2⟩ := (ho.here (.row encPr 2 e v xs) (by simp) : Row encPr 2 e 0 w v xs)
  have hf := ho.foot (.row encPr 2 e v xs) (by simp)
  have hf := fun b hb => (hf b hb).2
  by_cases hx : xs.length = 0
  · obtain ⟨A, c, rfl, hA⟩ : ∃ A c, v = .slice A 0 c ∧ (∀ g, A = some ⟨g, 0, none⟩ → g < w.heap.size) := by
      rcases h2 with ⟨rfl, _⟩ | ⟨g, cap, cur, rfl, _, hg, _⟩
      · exact ⟨none, 0, rfl, fun g h => by cases h⟩
      · rw [hx]; exact ⟨_, _, rfl, fun g' h => by cases h; exact (Array.getElem?_eq_some_iff.1 hg).1⟩
    have hxs : xs = [] := List.length_eq_zero_iff.1 hx
    subst hxs
    refine RetF.of ((AnyF.slices_SortFunc_none sortPr A c (.func (.func 113) #[] #[]) w).mono ?_)
    rintro e' w' ⟨rfl, rfl⟩
    refine ⟨(A, c), rfl, rfl, ⟨rfl, rfl, rfl, Nat.le_refl _⟩, fun b _ _ => rfl, ⟨fun f hf' => ?_, fun f hf' b hb => ?_, by simp⟩, fun b hb => ?_⟩
    · simp only [List.mem_singleton] at hf'; subst hf'
      intro i x hx'; simp [sortP] at hx'
    · simp only [List.mem_singleton] at hf'; subst hf'
      obtain ⟨o, hb⟩ := hb
      exact ⟨Nat.zero_le _, by
        rcases h2 with ⟨h, _⟩ | ⟨g, cap, cur, h, _, hg, _⟩
        · cases h; cases hb
        · cases h; cases hb; exact (Array.getElem?_eq_some_iff.1 hg).1⟩
    · obtain ⟨f, hf', hb⟩ := hb
      simp only [List.mem_singleton] at hf'; subst hf'
      obtain ⟨o, hb⟩ := hb
      refine .inl ⟨_, List.mem_singleton.2 rfl, ?_⟩
      rcases h2 with ⟨h, _⟩ | ⟨g, cap, cur, h, _, hg, _⟩
      · cases h; cases hb
      · cases h; cases hb; rfl
  · rcases h2 with ⟨_, h⟩ | ⟨g, cap, cur, rfl, _, hg, hle, hcap, hsz, htk⟩
    · exact absurd h hx
    · have hB : Blk w g (xs.flatMap encPr ++ cur.toList.drop (xs.length * 2)).toArray := by
        unfold Blk
        refine ⟨e, ?_⟩
        rw [hg, ← htk, List.take_append_drop]
      have hH := holdsK_of hB
      have hlt := hB.lt
      have hcon := AnyQ.slices_SortFunc_total sortPr 2 Tryd.isAgg134 Tryd.sizeOf134 encPr (fun _ => rfl) (fun x v hv => by simp [encPr] at hv; rcases hv with rfl | rfl <;> rfl) cfPr swoPr 113 #[] g 0 cap xs.toArray w (enters_of Tryd.func113 (by kernel_rfl) rfl) (cmpPr g 0 _ w) hH hlt (by simp; omega) totPr
      refine RetF.of (Calls.mono hcon ?_)
      rintro e' w' ⟨rfl, n, os, rfl⟩
      have hE : (xs.toArray.toList.mergeSort fun x y => !(ltOf cfPr) y x) = sortP xs := rfl
      rw [hE]
      have hk : HoldsK encPr 2 (sortWorldK encPr 2 w g 0 n (sortP xs).toArray os) g 0 (sortP xs).toArray := by
        unfold sortWorldK
        have h9 := holdsK_putRowK encPr 2 (Sort.ahead w n) g 0 xs.toArray (sortP xs).toArray (holdsK_ahead encPr 2 w n g 0 _ hH) (by simp [sortP_len])
        exact holdsK_grow encPr 2 _ os g 0 _ (by unfold putRowK putRow mapBlock Sort.ahead; simpa using hlt) h9
      have hsz2 := sortWorld_size (n := n) (g := g) (d := (sortP xs).toArray) (os := os) (w := w)
      refine ⟨(some ⟨g, 0, none⟩, cap), rfl, rfl, ⟨rfl, rfl, rfl, hsz2⟩, fun b hb hne => sortWorld_other hb (fun h => hne ?_), ⟨fun f hf' => ?_, fun f hf' b hb => ?_, by simp⟩, fun b hb => ?_⟩
      · exact ⟨_, List.mem_singleton.2 rfl, by subst h; rfl⟩
      · simp only [List.mem_singleton] at hf'; subst hf'
        exact sl_of_holdsK (by omega) hk
      · simp only [List.mem_singleton] at hf'; subst hf'
        obtain ⟨o, hb⟩ := hb
        cases hb
        exact ⟨Nat.zero_le _, by omega⟩
      · obtain ⟨f, hf', hb⟩ := hb
        simp only [List.mem_singleton] at hf'; subst hf'
        obtain ⟨o, hb⟩ := hb
        cases hb
        exact .inl ⟨_, List.mem_singleton.2 rfl, rfl⟩
end Go.Proofs.YtdigopgncfhiaaaDoor
