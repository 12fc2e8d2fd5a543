/- Tables: slices of slices of one's own. -/
import Derived.Test.YtekjkaoibcfgfaaX13
import Derived.Test.YtekjkaoibcfgfaaX9
import Derived.Laws.MakeOwn
namespace Go.Proofs.Ytekjkaoibcfgfaa
open Go.RowKit
set_option maxRecDepth 20000
set_option linter.unusedSimpArgs false
set_option linter.unusedVariables false

def rowC (n : Nat) (M : Mat) (i : Nat) : List Value := (List.range n).map fun j => .int .i64 (M i j)
def tabC (n k : Nat) (gs : Nat → Nat) : List Value := (List.range n).map fun i => if i < k then .slice (some ⟨gs i, 0, none⟩) n n else .slice none 0 0
/-- n rows of n numbers, of which k are made -/
structure Grid (ab : Nat) (gs : Nat → Nat) (n k : Nat) (M : Mat) (w : World) : Prop where
  tab : Blk w ab (tabC n k gs).toArray
  row : ∀ i, i < k → Blk w (gs i) (rowC n M i).toArray
  inj : ∀ i j, i < k → j < k → gs i = gs j → i = j
  ne : ∀ i, i < k → gs i ≠ ab
  le : k ≤ n
def Ent.grid (ab : Nat) (gs : Nat → Nat) (n k : Nat) (M : Mat) : Ent :=
  ⟨fun b => b = ab ∨ ∃ i, i < k ∧ gs i = b, Grid ab gs n k M, fun _ _ h hp => ⟨hp.tab.same (h ab (.inl rfl)), fun i hi => (hp.row i hi).same (h _ (.inr ⟨i, hi, rfl⟩)), hp.inj, hp.ne, hp.le⟩⟩
class TakeG (H : List Ent) (ab : Nat) (gs : outParam (Nat → Nat)) (n k : outParam Nat) (M : outParam Mat) (H' : outParam (List Ent)) : Prop where tk : Take H (.grid ab gs n k M) H'
instance (priority := high) takeG_here {H : List Ent} {ab : Nat} {gs : Nat → Nat} {n k : Nat} {M : Mat} : TakeG (.grid ab gs n k M :: H) ab gs n k M H := ⟨Take.here _ _⟩
instance takeG_there {H H' : List Ent} {e : Ent} {ab : Nat} {gs : Nat → Nat} {n k : Nat} {M : Mat} [i : TakeG H ab gs n k M H'] : TakeG (e :: H) ab gs n k M (e :: H') := ⟨Take.there _ i.tk⟩
class TakeR (H : List Ent) (gs : Nat → Nat) (ab : outParam Nat) (n k : outParam Nat) (M : outParam Mat) (H' : outParam (List Ent)) : Prop where tk : Take H (.grid ab gs n k M) H'
instance (priority := high) takeR_here {H : List Ent} {ab : Nat} {gs : Nat → Nat} {n k : Nat} {M : Mat} : TakeR (.grid ab gs n k M :: H) gs ab n k M H := ⟨Take.here _ _⟩
instance takeR_there {H H' : List Ent} {e : Ent} {ab : Nat} {gs : Nat → Nat} {n k : Nat} {M : Mat} [i : TakeR H gs ab n k M H'] : TakeR (e :: H) gs ab n k M (e :: H') := ⟨Take.there _ i.tk⟩
class RowI (I k : Nat) : Prop where lt : I < k
theorem rowC_get {n : Nat} {M : Mat} {i j : Nat} (h : j < n) : (rowC n M i)[j]? = some (.int .i64 (M i j)) := by
  unfold rowC; rw [List.getElem?_map, List.getElem?_range h]; rfl
theorem tabC_get {n k : Nat} {gs : Nat → Nat} {i : Nat} (h : i < n) : (tabC n k gs)[i]? = some (if i < k then .slice (some ⟨gs i, 0, none⟩) n n else .slice none 0 0) := by
  unfold tabC; rw [List.getElem?_map, List.getElem?_range h]; rfl
theorem rowC_set {n : Nat} {M : Mat} {i j : Nat} (h : j < n) (v : Int) : put1 (rowC n M i) (0 + j * 1) [.int .i64 v] = rowC n (setM M i j v) i := by
  show (rowC n M i).set (0 + j * 1) (.int .i64 v) = _
  apply List.ext_getElem?
  intro a
  have hl : (rowC n M i).length = n := by simp [rowC]
  rw [List.getElem?_set, hl]
  by_cases ha : a < n
  · rw [rowC_get ha, rowC_get ha]
    by_cases e : 0 + j * 1 = a
    · rw [if_pos e, if_pos (by omega), show a = j by omega]; simp [setM]
    · rw [if_neg e]
      have : ¬ a = j := by omega
      simp [setM, this]
  · rw [List.getElem?_eq_none (by rw [hl]; omega), List.getElem?_eq_none (by simp [rowC]; omega), if_neg (by omega)]
theorem rowC_other {n : Nat} {M : Mat} {i j a : Nat} {v : Int} (h : a ≠ i) : rowC n (setM M i j v) a = rowC n M a := by
  unfold rowC
  refine List.map_congr_left (fun b _ => ?_)
  simp [setM, h]
section
variable {P : Program} {w0 : World} {n : Nat} {d : List Deferred} {R : List (Nat × Value)} {H H' : List Ent} {Q : Exit → Act → World → Prop} {ops : Array Oper} {rest : List Oper} {o : Oper} {t : Tmp} {x y : Operand} {v : Value} {X : Act → World → Prop}
instance (priority := high) srcI_tab {ab I n k : Nat} {gs : Nat → Nat} {M : Mat} [i : TakeG H ab gs n k M H'] [r : RowI I k] : SrcI w0 H ab (0 + I * 1) [.slice (some ⟨gs I, 0, none⟩) n n] := ⟨fun w hb ho j v hv => by
  have hg : Grid ab gs n k M w := ho.here _ i.tk.mem
  match j, hv with
  | 0, hv =>
    simp only [List.getElem?_cons_zero, Option.some.injEq] at hv
    subst hv
    have hlt := r.lt
    have hle := hg.le
    rw [hg.tab.cell]
    have := tabC_get (k := k) (gs := gs) (show I < n by omega)
    rw [if_pos hlt] at this
    simpa using this⟩
instance (priority := high) srcI_row {I K n k ab : Nat} {gs : Nat → Nat} {M : Mat} [i : TakeR H gs ab n k M H'] [r : RowI I k] [r2 : RowI K n] : SrcI w0 H (gs I) (0 + K * 1) [.int .i64 (M I K)] := ⟨fun w hb ho j v hv => by
  have hg : Grid ab gs n k M w := ho.here _ i.tk.mem
  match j, hv with
  | 0, hv =>
    simp only [List.getElem?_cons_zero, Option.some.injEq] at hv
    subst hv
    rw [(hg.row I r.lt).cell]
    have := rowC_get (M := M) (i := I) r2.lt
    simpa using this⟩
theorem u_storeG {T1 : TypeId} {td : TypeDesc} {gs : Nat → Nat} {I K nn k ab : Nat} {g : Bool} {M : Mat} {i : Int} (hop : o.op = .store T1 x y) [i1 : TyI P T1 td 1 g] (hw : want R ops o = some true) (hd : o.dst = none) (hx : evR R x = some (.pointer (some ⟨gs I, 0 + K * 1, none⟩))) (hy : evR R y = some (.int .i64 i)) [i2 : TakeR H gs ab nn k M H'] [r : RowI I k] [r2 : RowI K nn]
    (h : U w0 n d R (.grid ab gs nn k (setM M I K i) :: H') (wpList P ops Q rest)) : U w0 n d R H (wpList P ops Q (o :: rest)) :=
  u_op hw fun a w q K1 hK => by
    have ho := q.own.take i2.tk
    have hg : Grid ab gs nn k M w := ho.here (.grid ab gs nn k M) (by simp)
    have hb := hg.row I r.lt
    have hlen : 0 + K * 1 + 1 ≤ (rowC nn M I).length := by have := r2.lt; simp [rowC]; omega
    have e1 := i1.siz w
    obtain ⟨g1, g2, g3, g4, g5, g6⟩ := heap_setCells (gs I) [.int .i64 i] (0 + K * 1) w (rowC nn M I) hb
    have hfoot := ho.foot (.grid ab gs nn k M) (by simp) (gs I) (.inr ⟨I, r.lt, rfl⟩)
    have hrun : (Instr.storeAt T1 (.pointer (some ⟨gs I, 0 + K * 1, none⟩)) (.int .i64 i)).run P w = .ok () (w.setCells (gs I) (0 + K * 1) [.int .i64 i]) := by
      have := run_storeCells_cells (P := P) (gs I) (0 + K * 1) [.int .i64 i] 0 w (fun j hj => by
        have h9 : 0 + K * 1 + j < (rowC nn M I).length := by simp at hj; omega
        rw [hb.cell]; simpa using h9) (fun j hj => hb.frozen _) (fun u hu => by simp at hu; subst hu; rfl)
      simp only [Nat.add_zero] at this
      have hsz : ¬ (Value.int .i64 i).cells.size ≠ 1 := fun h => h rfl
      unfold Instr.storeAt storeVar
      simp only [Sem.run_bind, Instr.sureAddr, Sem.run_pure, Result.andThen_ok, e1, Sem.run_ite, hsz, if_false]
      exact this
    unfold Oper.wp execOp; rw [hop]
    simp only [Sem.run_bind, q.ev hx, q.ev hy, hrun, Result.andThen_ok, Sem.run_pure, Oper.upon_skip, hd]
    refine hK _ _ (h _ _ (q.heap ?_ ?_))
    · exact q.below.trans ⟨g2, g3, g4, by omega, fun k hk => g6 k (by omega)⟩
    · refine ho.turn (by omega) (fun k hk hn => g6 k (fun e => hn (by subst e; exact .inr ⟨I, r.lt, rfl⟩))) q.base ⟨?_, fun j hj => ?_, hg.inj, hg.ne, hg.le⟩ (fun k hk => ⟨.inl hk, by rw [g5]; exact (ho.foot (.grid ab gs nn _ M) (by simp) k hk).2⟩)
      · exact hg.tab.same (g6 ab (fun e => hg.ne I r.lt e.symm))
      · by_cases e : j = I
        · subst e
          rw [← rowC_set r2.lt]; exact g1
        · rw [rowC_other e]
          exact (hg.row j hj).same (g6 _ (fun e2 => e (hg.inj _ _ hj r.lt e2)))
/-- make([]T, n) of one cell each -/
theorem u_make1 {T1 e : TypeId} {i : TypeInfo} {z v : Value} {n0 s : Nat} {g : Bool} (hop : o.op = .makeSlice T1 x y) [i1 : TyI P T1 (.slice e) s g] (hi : P.info? e = some i) (hz : i.zero = some z) (h1 : i.size = 1) (hcz : z.cells = #[v]) (hb : Nat.ble (i.bytes * 1000) 281474976710656 = true) (hw : want R ops o = some true) (hd : o.dst = some t) (ht : Nat.blt t n = true) (hx : evR R x = some (.int .i64 (n0 : Int))) (hy : evR R y = some (.int .i64 (n0 : Int))) (hn : n0 ≤ 1000)
    (h : ∀ b, U w0 n d ((t, .slice (some ⟨b, 0, none⟩) n0 n0) :: R) (.blk b (List.replicate n0 v) :: H) (wpList P ops Q rest)) : U w0 n d R H (wpList P ops Q (o :: rest)) :=
  u_op hw fun a w q K hK => by
    have hb' : (i.bytes : Int) * (n0 : Int) ≤ 281474976710656 := by
      have h9 := Nat.le_of_ble_eq_true hb
      have h8 : i.bytes * n0 ≤ i.bytes * 1000 := Nat.mul_le_mul_left _ hn
      have h7 : ((i.bytes * n0 : Nat) : Int) ≤ 281474976710656 := by omega
      rwa [Int.natCast_mul] at h7
    have hr := run_make (P := P) w T1 e i z i1.und hi hz .i64 .i64 n0 n0 (by omega) (Int.le_refl _) hb' (by omega)
    have hm : madeCells z.cells (n0 * i.size) = (List.replicate n0 v).toArray := by
      apply Array.ext'
      simp [madeCells, h1, hcz]
      apply List.ext_getElem?
      intro j
      rw [List.getElem?_map, List.getElem?_replicate]
      by_cases hj : j < n0
      · rw [List.getElem?_range hj, if_pos hj]; simp [Nat.mod_one]
      · rw [List.getElem?_eq_none (by simpa using hj), if_neg hj]; rfl
    simp only [Int.toNat_natCast, hm] at hr
    unfold Oper.wp execOp; rw [hop]
    simp only [Sem.run_bind, q.ev hx, q.ev hy, hr, Result.andThen_ok, Sem.run_pure, Oper.upon_value, hd]
    exact hK _ _ (h w.heap.size _ _ ((q.alloc _ e).put ht))
/-- a table without rows -/
theorem u_grid0 {ab n0 : Nat} (M : Mat) (ht : Take H (.blk ab (List.replicate n0 (.slice none 0 0))) H') (h : U w0 n d R (.grid ab (fun _ => 0) n0 0 M :: H') X) : U w0 n d R H X := fun a w q => by
  refine h a w (q.heap q.below ((q.own.take ht).recast (fun hp => ⟨?_, fun i hi => by omega, fun i j hi => by omega, fun i hi => by omega, Nat.zero_le _⟩) (fun b hb => ?_)))
  · have e : tabC n0 0 (fun _ => 0) = List.replicate n0 (.slice none 0 0) := by
      apply List.ext_getElem?
      intro j
      rw [List.getElem?_replicate]
      by_cases hj : j < n0
      · rw [tabC_get hj, if_pos hj]; rfl
      · rw [List.getElem?_eq_none (by simp [tabC]; omega), if_neg hj]
    rw [e]; exact hp
  · rcases hb with rfl | ⟨i, hi, _⟩
    · rfl
    · omega
def updN (gs : Nat → Nat) (k r : Nat) : Nat → Nat := fun i => if i = k then r else gs i
def zeroRow (M : Mat) (k : Nat) : Mat := fun a b => if a = k then 0 else M a b
theorem tabC_upd {n k r : Nat} {gs : Nat → Nat} (h : k < n) : put1 (tabC n k gs) (0 + k * 1) [.slice (some ⟨r, 0, none⟩) n n] = tabC n (k + 1) (updN gs k r) := by
  show (tabC n k gs).set (0 + k * 1) _ = _
  apply List.ext_getElem?
  intro a
  have hl : (tabC n k gs).length = n := by simp [tabC]
  rw [List.getElem?_set, hl]
  by_cases ha : a < n
  · rw [tabC_get ha, tabC_get ha]
    by_cases e : 0 + k * 1 = a
    · rw [if_pos e, if_pos (by omega), if_pos (by omega), show a = k by omega]; simp [updN]
    · rw [if_neg e]
      have : ¬ a = k := by omega
      simp only [updN, this, if_false]
      by_cases h3 : a < k
      · rw [if_pos h3, if_pos (by omega)]
      · rw [if_neg h3, if_neg (by omega)]
  · rw [List.getElem?_eq_none (by rw [hl]; omega), List.getElem?_eq_none (by simp [tabC]; omega), if_neg (by omega)]
/-- a row put into a table -/
theorem u_storeRow {T1 : TypeId} {td : TypeDesc} {gs : Nat → Nat} {nn k ab r : Nat} {g : Bool} {M : Mat} {H2 : List Ent} (hop : o.op = .store T1 x y) [i1 : TyI P T1 td 1 g] (hw : want R ops o = some true) (hd : o.dst = none) (hx : evR R x = some (.pointer (some ⟨ab, 0 + k * 1, none⟩))) (hy : evR R y = some (.slice (some ⟨r, 0, none⟩) nn nn)) [i2 : TakeG H ab gs nn k M H'] (ht : Take H' (.blk r (List.replicate nn (.int .i64 0))) H2) (hk : k < nn)
    (h : U w0 n d R (.grid ab (updN gs k r) nn (k + 1) (zeroRow M k) :: H2) (wpList P ops Q rest)) : U w0 n d R H (wpList P ops Q (o :: rest)) :=
  u_op hw fun a w q K1 hK => by
    have ho := q.own.take i2.tk
    have hg : Grid ab gs nn k M w := ho.here (.grid ab gs nn k M) (by simp)
    have hr : Blk w r (List.replicate nn (.int .i64 0)).toArray := ho.here (.blk r (List.replicate nn (.int .i64 0))) (List.mem_cons_of_mem _ ht.mem)
    have hap := (List.pairwise_cons.1 ho.apart).1 _ ht.mem
    have hrf := ho.foot (.blk r (List.replicate nn (.int .i64 0))) (List.mem_cons_of_mem _ ht.mem) r rfl
    have hb := hg.tab
    have hlen : 0 + k * 1 + 1 ≤ (tabC nn k gs).length := by simp [tabC]; omega
    have e1 := i1.siz w
    obtain ⟨g1, g2, g3, g4, g5, g6⟩ := heap_setCells ab [.slice (some ⟨r, 0, none⟩) nn nn] (0 + k * 1) w (tabC nn k gs) hb
    have hfoot := ho.foot (.grid ab gs nn k M) (by simp) ab (.inl rfl)
    have hrun : (Instr.storeAt T1 (.pointer (some ⟨ab, 0 + k * 1, none⟩)) (.slice (some ⟨r, 0, none⟩) nn nn)).run P w = .ok () (w.setCells ab (0 + k * 1) [.slice (some ⟨r, 0, none⟩) nn nn]) := by
      have := run_storeCells_cells (P := P) ab (0 + k * 1) [.slice (some ⟨r, 0, none⟩) nn nn] 0 w (fun j hj => by
        have h9 : 0 + k * 1 + j < (tabC nn k gs).length := by simp at hj; omega
        rw [hb.cell]; simpa using h9) (fun j hj => hb.frozen _) (fun u hu => by simp at hu; subst hu; rfl)
      simp only [Nat.add_zero] at this
      have hsz : ¬ (Value.slice (some ⟨r, 0, none⟩) nn nn).cells.size ≠ 1 := fun h => h rfl
      unfold Instr.storeAt storeVar
      simp only [Sem.run_bind, Instr.sureAddr, Sem.run_pure, Result.andThen_ok, e1, Sem.run_ite, hsz, if_false]
      exact this
    unfold Oper.wp execOp; rw [hop]
    simp only [Sem.run_bind, q.ev hx, q.ev hy, hrun, Result.andThen_ok, Sem.run_pure, Oper.upon_skip, hd]
    have hra : r ≠ ab := fun e => hap r (.inl e) rfl
    have hrg : ∀ i, i < k → gs i ≠ r := fun i hi e => hap r (.inr ⟨i, hi, e⟩) rfl
    have ho2 : Own w0.heap.size w (.blk r (List.replicate nn (.int .i64 0)) :: .grid ab gs nn k M :: H2) := by
      have := ho.take (Take.there (.grid ab gs nn k M) ht)
      exact this
    have ho3 : Own w0.heap.size w (⟨fun b => b = r ∨ b = ab ∨ ∃ i, i < k ∧ gs i = b, fun w' => Blk w' r (List.replicate nn (Value.int .i64 0)).toArray ∧ Grid ab gs nn k M w', fun w1 w2 h hp => ⟨hp.1.same (h r (.inl rfl)), (Ent.grid ab gs nn k M).loc w1 w2 (fun b hb => h b (.inr hb)) hp.2⟩⟩ :: H2) := by
      have hA := List.pairwise_cons.1 ho2.apart
      have hA2 := List.pairwise_cons.1 hA.2
      refine ⟨fun f hf => ?_, fun f hf b hb => ?_, List.pairwise_cons.2 ⟨fun f hf b hb => ?_, hA2.2⟩⟩
      · rcases List.mem_cons.1 hf with rfl | hf
        · exact ⟨hr, hg⟩
        · exact ho2.here f (by simp [hf])
      · rcases List.mem_cons.1 hf with rfl | hf
        · rcases hb with rfl | hb
          · exact hrf
          · exact ho2.foot (.grid ab gs nn k M) (by simp) b hb
        · exact ho2.foot f (by simp [hf]) b hb
      · rcases hb with rfl | hb
        · exact hA.1 f (by simp [hf]) b rfl
        · exact hA2.1 f hf b hb
    refine hK _ _ (h _ _ (q.heap ?_ ?_))
    · exact q.below.trans ⟨g2, g3, g4, by omega, fun k hk => g6 k (by omega)⟩
    · refine ho3.turn (by omega) (fun b hb hn => g6 b (fun e => hn (.inr (.inl e)))) q.base ⟨?_, fun j hj => ?_, fun i j hi hj e => ?_, fun i hi => ?_, by omega⟩ (fun b hb => ?_)
      · rw [← tabC_upd hk]; exact g1
      · by_cases e : j = k
        · subst e
          have e2 : rowC nn (zeroRow M j) j = List.replicate nn (.int .i64 0) := by
            apply List.ext_getElem?
            intro b
            rw [List.getElem?_replicate]
            by_cases hb : b < nn
            · rw [rowC_get hb, if_pos hb]; simp [zeroRow]
            · rw [List.getElem?_eq_none (by simp [rowC]; omega), if_neg hb]
          rw [e2]
          simp only [updN, if_true]
          exact hr.same (g6 r hra)
        · have e2 : rowC nn (zeroRow M k) j = rowC nn M j := by
            unfold rowC
            exact List.map_congr_left (fun b _ => by simp [zeroRow, e])
          rw [e2]
          simp only [updN, e, if_false]
          exact (hg.row j (by omega)).same (g6 _ (hg.ne j (by omega)))
      · simp only [updN] at e
        split at e <;> split at e
        · omega
        · exact absurd e.symm (hrg j (by omega))
        · exact absurd e (hrg i (by omega))
        · exact hg.inj i j (by omega) (by omega) e
      · simp only [updN]
        split
        · exact hra
        · exact hg.ne i (by omega)
      · refine ⟨.inl ?_, ?_⟩
        · rcases hb with rfl | ⟨i, hi, e⟩
          · exact .inr (.inl rfl)
          · simp only [updN] at e
            split at e
            · exact .inl e.symm
            · exact .inr (.inr ⟨i, by omega, e⟩)
        · rw [g5]
          rcases hb with rfl | ⟨i, hi, e⟩
          · exact hfoot.2
          · simp only [updN] at e
            split at e
            · rw [← e]; exact hrf.2
            · exact (ho.foot (.grid ab gs nn k M) (by simp) b (.inr ⟨i, by omega, e⟩)).2
end
end Go.Proofs.Ytekjkaoibcfgfaa
