/- More of the seat's types and functions, for the walk's rules. -/
import Derived.Test.YtdigopgncfhiaaaDoorA5
import Derived.Test.YtdigopgncfhiaaaDoorA10
import Derived.Test.YtdigopgncfhiaaaDoorA12
import Derived.Test.YtdigopgncfhiaaaDoorA13
namespace Go.Proofs.YtdigopgncfhiaaaDoor
open Go.RowKit
set_option maxRecDepth 20000
instance : TyI Tryd.prog 92 (TypeDesc.struct #[{ name := "needs", type := 39, offset := 0, embedded := false, tag := "", pkgPath := "kreisel/ice", byteOffset := 0 }, { name := "may", type := 90, offset := 1, embedded := false, tag := "", pkgPath := "kreisel/ice", byteOffset := 24 }, { name := "hands", type := 33, offset := 2, embedded := false, tag := "", pkgPath := "kreisel/ice", byteOffset := 48 }]) 3 true := ⟨Tryd.underlying92, Tryd.sizeOf92, Tryd.isAgg92⟩
instance : TyZ Tryd.prog 92 [Value.slice none 0 0, Value.slice none 0 0, Value.slice none 0 0] := ⟨fun w => ⟨_, Tryd.zeroValue92 w, rfl⟩⟩
instance : TyB Tryd.prog 92 [(0, 1), (1, 1), (2, 1)] [Value.slice none 0 0, Value.slice none 0 0, Value.slice none 0 0] := tyB_struct (zv := Value.agg #[Value.slice none 0 0, Value.slice none 0 0, Value.slice none 0 0]) (by kernel_rfl) rfl Tryd.underlying92 (by kernel_rfl)
instance : TyI Tryd.prog 155 (TypeDesc.struct #[{ name := "kind", type := 3, offset := 0, embedded := false, tag := "", pkgPath := "kreisel/ice", byteOffset := 0 }, { name := "a", type := 3, offset := 1, embedded := false, tag := "", pkgPath := "kreisel/ice", byteOffset := 8 }, { name := "b", type := 3, offset := 2, embedded := false, tag := "", pkgPath := "kreisel/ice", byteOffset := 16 }]) 3 true := ⟨Tryd.underlying155, Tryd.sizeOf155, Tryd.isAgg155⟩
instance : TyZ Tryd.prog 155 [Value.int Go.IntKind.i64 0, Value.int Go.IntKind.i64 0, Value.int Go.IntKind.i64 0] := ⟨fun w => ⟨_, Tryd.zeroValue155 w, rfl⟩⟩
instance : TyB Tryd.prog 155 [(0, 1), (1, 1), (2, 1)] [Value.int Go.IntKind.i64 0, Value.int Go.IntKind.i64 0, Value.int Go.IntKind.i64 0] := tyB_struct (zv := Value.agg #[Value.int Go.IntKind.i64 0, Value.int Go.IntKind.i64 0, Value.int Go.IntKind.i64 0]) (by kernel_rfl) rfl Tryd.underlying155 (by kernel_rfl)
instance : FoI Tryd.prog 92 0 0 := foI (T := 92) (m := 0) inferInstance rfl (inferInstance : TyI Tryd.prog 39 _ _ _) rfl rfl
instance : FoI Tryd.prog 92 1 1 := foI (T := 92) (m := 1) inferInstance rfl (inferInstance : TyI Tryd.prog 90 _ _ _) rfl rfl
instance : FoI Tryd.prog 92 2 2 := foI (T := 92) (m := 2) inferInstance rfl (inferInstance : TyI Tryd.prog 33 _ _ _) rfl rfl
instance : FoI Tryd.prog 155 0 0 := foI (T := 155) (m := 0) inferInstance rfl (inferInstance : TyI Tryd.prog 3 _ _ _) rfl rfl
instance : FoI Tryd.prog 155 1 1 := foI (T := 155) (m := 1) inferInstance rfl (inferInstance : TyI Tryd.prog 3 _ _ _) rfl rfl
instance : FoI Tryd.prog 155 2 2 := foI (T := 155) (m := 2) inferInstance rfl (inferInstance : TyI Tryd.prog 3 _ _ _) rfl rfl
end Go.Proofs.YtdigopgncfhiaaaDoor
/- Ice: the greatest of a list; what stretches need. -/
namespace Go.Proofs.YtdigopgncfhiaaaDoor
open Go.RowKit
set_option linter.unusedSimpArgs false
set_option linter.unusedVariables false
set_option maxRecDepth 20000
section
variable {w0 : World} {n : Nat} {d : List Deferred} {R : List (Nat × Value)} {H : List Ent} {o : Oper} {x : Operand} {a b : Int}
theorem e_spanHi (hop : o.op = .field 28 x 1) (hx : evR R x = some (.agg #[.int .i64 a, .int .i64 b])) : Ev Tryd.prog w0 n d R H o (.int .i64 b) :=
  e_fieldV (vs := [.int .i64 a, .int .i64 b]) hop hx rfl (inferInstance : TyI Tryd.prog 3 _ _ _) rfl
end
theorem maxL_take {l : List Int} {i : Nat} (h0 : 0 < i) (hi : i < l.length) : Flow.maxL (l.take (i + 1)) = max (Flow.maxL (l.take i)) l[i] := by
  cases l with
  | nil => simp at hi
  | cons x r =>
    cases i with
    | zero => omega
    | succ i =>
      have hi' : i < r.length := by simpa using hi
      have e : r.take (i + 1) = r.take i ++ [r[i]] := by rw [List.take_add_one]; simp [hi']
      show (r.take (i + 1)).foldl max x = max ((r.take i).foldl max x) r[i]
      rw [e, List.foldl_append]; rfl
theorem max_any (l : List Int) (A : Option Addr) (c : Nat) (w : World) (h : SlAt encI 1 w A l) (h0 : 0 < l.length) (hl : l.length ≤ 1000) : Gv Tryd.prog 39 [.slice A l.length c] w (.int .i64 (Flow.maxL l)) := by
  obtain ⟨b, o, rfl, _, _⟩ := h.at_ h0
  have : InS w b o encI 1 l := ⟨h⟩
  have : GetI l 0 l[0] := ⟨by simp [h0]⟩
  unfold Gv
  (refine ret_enter (n := 25) Tryd.func39 rfl rfl rfl ?_)
  (repeat' (first | ((with_reducible refine isOps ?_); first | refine u_move rfl rfl rfl rfl rfl ?_ | refine u_assign rfl rfl rfl rfl rfl ?_ | (refine x_load rfl rfl rfl rfl rfl ?_; refine ⟨_, rfl, ?_⟩) | (refine u_cmp rfl rfl rfl rfl rfl rfl rfl (fun h => ?_) (fun h => ?_) <;> (dsimp only [cmpP] at h; (try (exfalso; omega)))) | refine u_index rfl rfl rfl rfl rfl rfl rfl (by omega) ?_ | refine u_len rfl rfl rfl rfl rfl ?_) | (with_reducible first | refine u_seq ?_ | refine u_region ?_ | refine u_nil ?_ | refine u_then_n ?_ | refine u_skip ?_ | refine u_block ?_) | ((with_reducible refine u_cond_f ?_ ?_); (· exact rfl))))
  have e0 : Flow.maxL (l.take 1) = l[0] := by
    cases l with
    | nil => simp at h0
    | cons x r => rfl
  refine u_loopP (ι := Nat) [0] rfl (fun i => 0 < i ∧ i ≤ l.length) (fun i => [(4, .int .i64 (i : Int)), (3, .int .i64 (Flow.maxL (l.take i)))]) (fun _ => []) (fun i => l.length - i) 1 ⟨by omega, by omega⟩ (by rw [e0]; (first | exact fun _ _ h => lk_nil h | (repeat (first | exact (fun _ _ h => lk_nil h) | (refine lk_sub rfl ?_))))) (by (repeat (first | exact Out.nil _ | (refine Out.cons (by (repeat (first | exact Take.here _ _ | apply Take.there))) ?_)))) ?_
  rintro i ⟨hi0, hi⟩
  simp only [zipR, List.cons_append, List.nil_append]
  by_cases hlt : i < l.length
  · have : GetI l i l[i] := ⟨by simp [hlt]⟩
    (repeat' (first | ((with_reducible refine isOps ?_); first | refine u_move rfl rfl rfl rfl rfl ?_ | refine u_assign rfl rfl rfl rfl rfl ?_ | (refine x_load rfl rfl rfl rfl rfl ?_; refine ⟨_, rfl, ?_⟩) | (refine u_cmp rfl rfl rfl rfl rfl rfl rfl (fun h => ?_) (fun h => ?_) <;> (dsimp only [cmpP] at h; (try (exfalso; omega)))) | refine u_add1 rfl rfl rfl rfl rfl rfl (by omega) ?_ | refine u_index rfl rfl rfl rfl rfl rfl rfl (by omega) ?_ | refine u_len rfl rfl rfl rfl rfl ?_ | refine u_max rfl rfl rfl rfl rfl rfl ?_) | (with_reducible first | refine u_seq ?_ | refine u_region ?_ | refine u_nil ?_ | refine u_then_n ?_ | refine u_skip ?_ | refine u_block ?_ | refine u_in_n ?_) | ((with_reducible refine u_cond_t ?_ ?_); (· exact rfl))))
    exact u_again (i + 1) ⟨by omega, by omega⟩ (by omega) (by rw [maxL_take hi0 hlt]; (first | exact fun _ _ h => lk_nil h | (repeat (first | exact (fun _ _ h => lk_nil h) | (refine lk_sub rfl ?_))))) (by (repeat (first | exact Out.nil _ | (refine Out.cons (by (repeat (first | exact Take.here _ _ | apply Take.there))) ?_))))
  · obtain rfl : i = l.length := by omega
    rw [List.take_length]
    (repeat' (first | ((with_reducible refine isOps ?_); first | refine u_move rfl rfl rfl rfl rfl ?_ | refine u_assign rfl rfl rfl rfl rfl ?_ | (refine u_cmp rfl rfl rfl rfl rfl rfl rfl (fun h => ?_) (fun h => ?_) <;> (dsimp only [cmpP] at h; (try (exfalso; omega)))) | refine u_len rfl rfl rfl rfl rfl ?_) | (with_reducible first | refine u_seq ?_ | refine u_region ?_ | refine u_nil ?_ | refine u_then_n ?_ | refine u_ret ?_ | refine u_exit ?_ | refine u_in_same ?_ | refine u_then_e ?_) | ((with_reducible refine u_cond_f ?_ ?_); (· exact rfl))))
    exact u_done (by (exact ResL.cons (by exact Res1.tmp rfl) ResL.nil)) () trivial rfl (fun _ h => h.sub (by (repeat (first | exact Out.nil _ | (refine Out.cons (by (repeat (first | exact Take.here _ _ | apply Take.there))) ?_)))))
/-- what is left without spraying, and the need, after h hours -/
def needG (c : Cov) (z : Bed) : Nat → Int × Int
  | 0 => (z.thick.lo, 0)
  | h + 1 => ((needG c z h).1 - (lossC c z (c.hours.getD h default)).hi,
      if 0 < asksC c (c.hours.getD h default) - ((needG c z h).1 - (lossC c z (c.hours.getD h default)).hi) then max (needG c z h).2 ((asksC c (c.hours.getD h default) - ((needG c z h).1 - (lossC c z (c.hours.getD h default)).hi) + c.layer.lo - 1) / c.layer.lo) else (needG c z h).2)
def needRow (c : Cov) (z : Bed) (m : Nat) : List Int := (List.range m).map fun h => (needG c z (h + 1)).2
def needsL (c : Cov) : List (List Int) := c.beds.map fun z => needRow c z c.hours.length
theorem needRow_len {c : Cov} {z : Bed} {m : Nat} : (needRow c z m).length = m := by simp [needRow]
theorem needRow_succ {c : Cov} {z : Bed} {m : Nat} : needRow c z (m + 1) = needRow c z m ++ [(needG c z (m + 1)).2] := by simp [needRow, List.range_succ]
theorem asksC_in {c : Cov} {u : Hour} (hf : Fine c) : 0 ≤ asksC c u ∧ asksC c u ≤ 2000 := by
  have h1 := hf.limit; have h2 := hf.base
  simp only [inB_iff] at h1 h2
  unfold asksC; split <;> omega
theorem needG_in {c : Cov} {z : Bed} (hf : Fine c) (hz : z ∈ c.beds) : ∀ h, h ≤ c.hours.length → -(1650 * (h : Int)) ≤ (needG c z h).1 ∧ (needG c z h).1 ≤ 2000 ∧ 0 ≤ (needG c z h).2 ∧ (needG c z h).2 ≤ 2200 + 1650 * h
  | 0, _ => by
    have := hf.bed z hz
    simp only [bedOk, Bool.and_eq_true, knownB_iff] at this
    simp only [needG]; omega
  | h + 1, hh => by
    obtain ⟨i1, i2, i3, i4⟩ := needG_in hf hz h (by omega)
    have hu : c.hours.getD h default ∈ c.hours := by rw [getD_of (List.getElem?_eq_getElem (by omega))]; exact List.getElem_mem (by omega)
    have l1 := lossC_in hf hz hu
    have a1 := asksC_in (u := c.hours.getD h default) hf
    have y1 := hf.layer
    simp only [knownB_iff] at y1
    simp only [needG]
    generalize (needG c z h).1 = p at *
    generalize (needG c z h).2 = q at *
    generalize (lossC c z (c.hours.getD h default)).hi = r at *
    generalize asksC c (c.hours.getD h default) = s at *
    refine ⟨by omega, by omega, ?_, ?_⟩
    · split
      · exact Int.le_trans i3 (Int.le_max_left _ _)
      · exact i3
    · split
      · have h1 : (s - (p - r) + c.layer.lo - 1) / c.layer.lo ≤ s - (p - r) + c.layer.lo - 1 := Int.ediv_le_self _ (by omega)
        omega
      · omega
/-- rows that are done, and empty ones -/
def doneRows (c : Cov) (i : Nat) : List (List Int) := (c.beds.take i).map (fun z => needRow c z c.hours.length) ++ List.replicate (c.beds.length - i) []
theorem doneRows_end {c : Cov} : doneRows c c.beds.length = needsL c := by simp [doneRows, needsL]
theorem doneRows_set {c : Cov} {i : Nat} {z : Bed} (hz : c.beds[i]? = some z) : (doneRows c i).set i (needRow c z c.hours.length) = doneRows c (i + 1) := by
  obtain ⟨hi, e⟩ := List.getElem?_eq_some_iff.1 hz
  unfold doneRows
  have hl : ((c.beds.take i).map (fun z => needRow c z c.hours.length)).length = i := by simp; omega
  rw [List.set_append_right _ _ (by omega), hl, Nat.sub_self]
  have e1 : c.beds.take (i + 1) = c.beds.take i ++ [z] := by rw [List.take_add_one, hz]; rfl
  rw [e1, List.map_append, List.append_assoc]
  congr 1
  obtain ⟨m, hm⟩ : ∃ m, c.beds.length - i = m + 1 := ⟨c.beds.length - i - 1, by omega⟩
  rw [hm, show c.beds.length - (i + 1) = m by omega, List.replicate_succ]
  rfl
theorem doneRows_at {c : Cov} {i : Nat} (hi : i < c.beds.length) : (doneRows c i)[i]? = some [] := by
  unfold doneRows
  have hl : ((c.beds.take i).map (fun z => needRow c z c.hours.length)).length = i := by simp; omega
  rw [List.getElem?_append_right (by omega), hl, List.getElem?_replicate, if_pos (by omega)]
theorem doneRows_zero {c : Cov} : doneRows c 0 = List.replicate c.beds.length [] := by simp [doneRows]
set_option maxHeartbeats 4000000 in
theorem ineeds_any (c : Cov) (A : Option Addr) (ca : Nat) (B : Option Addr) (cb : Nat) (C : Option Addr) (cc g : Nat) (w : World) (hr : InC w g 0 (cellsCov c A ca B cb C cc)) (hG : InC w 0 0 limC) (h : CovAt w c A B C) (hs : Small c) (hf : Fine c) :
    Ret Tryd.prog 38 [.pointer (some ⟨g, 0, none⟩)] w (fun p : Nat × List (SlOf Int) => .slice (some ⟨p.1, 0, none⟩) p.2.length p.2.length) (fun p => [.tabG encOf (rowOf encI 1 3) p.1 p.2]) (fun p => p.2.map (·.xs) = needsL c) := by
  have h4 := hs.b; have h5 := hs.h
  have hb := h.b; have hh := h.h
  have hlo := fun W (hb : Below w.heap.size w W) i j z u (hz : c.beds[i]? = some z) (hu : c.hours[j]? = some u) => iloss_any c A ca B cb C cc g i j z u W (hr.below hb) (h.below hb) hs hf hz hu
  have has := fun W (hb : Below w.heap.size w W) u => iasks_any c A ca B cb C cc g u W (hr.below hb) (hG.below hb) hf
  unfold vSp at hlo
  unfold vHour at has
  unfold cellsCov at hr
  (refine ret_enter (n := 92) Tryd.func38 rfl rfl rfl ?_)
  (repeat' (first | ((with_reducible refine isOps ?_); first | refine u_move rfl rfl rfl rfl rfl ?_ | refine u_assign rfl rfl rfl rfl rfl ?_ | (refine x_load rfl rfl rfl rfl rfl ?_; refine ⟨_, rfl, ?_⟩) | refine u_field rfl rfl rfl rfl rfl ?_ | refine u_makeC rfl rfl rfl rfl rfl rfl rfl rfl rfl rfl rfl (by omega) (fun gt => ?_) | refine u_len rfl rfl rfl rfl rfl ?_ | refine u_nilCheck rfl rfl rfl rfl rfl ?_) | (with_reducible first | refine u_seq ?_ | refine u_region ?_ | refine u_nil ?_ | refine u_then_n ?_ | refine u_block ?_)))
  refine u_tabNew (enc := encI) (k := 1) (e := 3) (Take.here _ _) ?_
  refine u_loopP (ι := Nat × List (SlOf Int)) [0, 3, 21, 22] rfl (fun p => p.1 ≤ c.beds.length ∧ p.2.map (·.xs) = doneRows c p.1) (fun p => [(23, .int .i64 (p.1 : Int))]) (fun p => [.tabG encOf (rowOf encI 1 3) gt p.2]) (fun p => c.beds.length - p.1) (0, List.replicate c.beds.length nilOf) ⟨Nat.zero_le _, by simp [doneRows_zero, nilOf]⟩ (by (first | exact fun _ _ h => lk_nil h | (repeat (first | exact (fun _ _ h => lk_nil h) | (refine lk_sub rfl ?_))))) (by (repeat (first | exact Out.nil _ | (refine Out.cons (by (repeat (first | exact Take.here _ _ | apply Take.there))) ?_)))) ?_
  rintro ⟨i, L⟩ ⟨hi, hL⟩
  simp only at hi hL
  have hLl : L.length = c.beds.length := by
    have := congrArg List.length hL
    simp [doneRows] at this; omega
  simp only [zipR, List.cons_append, List.nil_append]
  by_cases hlt : i < c.beds.length
  · obtain ⟨z, hz⟩ : ∃ z, c.beds[i]? = some z := ⟨_, List.getElem?_eq_getElem hlt⟩
    obtain ⟨bb, o, rfl, _, _⟩ := hb.at_ hlt
    have : InS w bb o encBed 3 c.beds := ⟨hb⟩
    have : GetI c.beds i z := ⟨hz⟩
    obtain ⟨s0, hs0⟩ : ∃ s0, L[i]? = some s0 := ⟨_, List.getElem?_eq_getElem (by omega)⟩
    have hx0 : s0.xs = [] := by
      have h1 := doneRows_at (c := c) hlt
      rw [← hL, List.getElem?_map, hs0] at h1
      exact Option.some.inj h1
    (repeat' (first | ((with_reducible refine isOps ?_); first | refine u_move rfl rfl rfl rfl rfl ?_ | refine u_assign rfl rfl rfl rfl rfl ?_ | (refine x_load rfl rfl rfl rfl rfl ?_; refine ⟨_, rfl, ?_⟩) | refine u_field rfl rfl rfl rfl rfl ?_ | (refine u_cmp rfl rfl rfl rfl rfl rfl rfl (fun h => ?_) (fun h => ?_) <;> (dsimp only [cmpP] at h; (try (exfalso; omega)))) | refine u_index rfl rfl rfl rfl rfl rfl rfl (by omega) ?_ | refine u_len rfl rfl rfl rfl rfl ?_ | (refine x_store rfl rfl rfl rfl rfl ?_; refine And.intro rfl (And.intro (by first | decide | exact Nat.le_of_ble_eq_true rfl | (simp; omega)) ⟨_, rfl, ?_⟩)) | (refine u_alloc rfl rfl rfl rfl (fun b => ?_)) | refine u_nilCheck rfl rfl rfl rfl rfl ?_) | (with_reducible first | refine u_seq ?_ | refine u_region ?_ | refine u_nil ?_ | refine u_then_n ?_ | refine u_skip ?_ | refine u_block ?_) | ((with_reducible refine u_cond_t ?_ ?_); (· exact rfl))))
    refine u_tabOpen i hs0 (by (repeat (first | exact Take.here _ _ | apply Take.there))) ?_
    refine u_loopP (ι := Nat × SlOf Int) [0, 3, 4, 21, 22, 23, 36] rfl (fun p => p.1 ≤ c.hours.length ∧ p.2.xs = needRow c z p.1) (fun p => [(37, .int .i64 (p.1 : Int)), (6, .int .i64 (needG c z p.1).1), (7, .int .i64 (needG c z p.1).2)]) (fun p => [.arr encOf 1 gt (L.set i p.2), rowOf encI 1 3 p.2, .all ((L.eraseIdx i).map (rowOf encI 1 3))]) (fun p => c.hours.length - p.1) (0, s0) ⟨Nat.zero_le _, by rw [hx0]; rfl⟩ (by (first | exact fun _ _ h => lk_nil h | (repeat (first | exact (fun _ _ h => lk_nil h) | (refine lk_sub rfl ?_))))) (by (repeat (first | exact Out.nil _ | (refine Out.cons (by (repeat (first | exact Take.here _ _ | apply Take.there))) ?_)))) ?_
    rintro ⟨j, s⟩ ⟨hj, hsx⟩
    simp only at hj hsx
    simp only [zipR, List.cons_append, List.nil_append]
    by_cases hjl : j < c.hours.length
    · obtain ⟨u, hu⟩ : ∃ u, c.hours[j]? = some u := ⟨_, List.getElem?_eq_getElem hjl⟩
      obtain ⟨bc, oc, rfl, _, _⟩ := hh.at_ hjl
      have : InS w bc oc encHour 5 c.hours := ⟨hh⟩
      have : GetI c.hours j u := ⟨hu⟩
      have hG1 := needG_in hf (List.mem_of_getElem? hz) j hj
      have l1 := lossC_in hf (List.mem_of_getElem? hz) (List.mem_of_getElem? hu)
      have a1 := asksC_in (u := u) hf
      have y1 := hf.layer
      simp only [knownB_iff] at y1
      have eG : needG c z (j + 1) = ((needG c z j).1 - (lossC c z u).hi, if 0 < asksC c u - ((needG c z j).1 - (lossC c z u).hi) then max (needG c z j).2 ((asksC c u - ((needG c z j).1 - (lossC c z u).hi) + c.layer.lo - 1) / c.layer.lo) else (needG c z j).2) := by simp only [needG, getD_of hu]
      have := hlo
      (repeat' (first | ((with_reducible refine isOps ?_); first | refine u_move rfl rfl rfl rfl rfl ?_ | refine u_assign rfl rfl rfl rfl rfl ?_ | (refine x_load rfl rfl rfl rfl rfl ?_; refine ⟨_, rfl, ?_⟩) | refine u_field rfl rfl rfl rfl rfl ?_ | (refine u_cmp rfl rfl rfl rfl rfl rfl rfl (fun h => ?_) (fun h => ?_) <;> (dsimp only [cmpP] at h; (try (exfalso; omega)))) | refine u_gives rfl rfl rfl rfl rfl rfl (fun _ _ q => hlo _ q.below i j z u hz hu) ?_ | refine u_gives rfl rfl rfl rfl rfl rfl (fun _ _ q => has _ q.below u) ?_ | refine u_val rfl rfl rfl (e_spanHi rfl rfl) ?_ | refine u_sub rfl rfl rfl rfl rfl rfl (IntWalk.i64_in _ (by omega)) ?_ | refine u_index rfl rfl rfl rfl rfl rfl rfl (by omega) ?_ | refine u_nilCheck rfl rfl rfl rfl rfl ?_) | (with_reducible first | refine u_seq ?_ | refine u_region ?_ | refine u_nil ?_ | refine u_then_n ?_ | refine u_skip ?_ | refine u_block ?_) | ((with_reducible refine u_cond_t ?_ ?_); (· exact rfl)) | ((with_reducible refine u_cond_f ?_ ?_); (· exact rfl))))
      · have hq1 : 0 ≤ (asksC c u - ((needG c z j).1 - (lossC c z u).hi) + c.layer.lo - 1) / c.layer.lo := Int.ediv_nonneg (by omega) (by omega)
        have hq2 : (asksC c u - ((needG c z j).1 - (lossC c z u).hi) + c.layer.lo - 1) / c.layer.lo ≤ asksC c u - ((needG c z j).1 - (lossC c z u).hi) + c.layer.lo - 1 := Int.ediv_le_self _ (by omega)
        (refine u_quiet (by kernel_rfl) (by kernel_rfl) (by kernel_rfl) ?_)
        (repeat' (first | ((with_reducible refine isOpsQ ?_); first | refine q_val (e_move rfl rfl) rfl rfl rfl ?_ | refine q_val (e_load' rfl rfl (by exact rfl)) rfl rfl rfl ?_ | refine q_val (e_field rfl rfl) rfl rfl rfl ?_ | refine q_val (e_assign rfl rfl) rfl rfl rfl ?_ | refine q_val (e_add rfl rfl rfl (IntWalk.i64_in _ (by omega))) rfl rfl rfl ?_ | refine q_val (e_sub rfl rfl rfl (IntWalk.i64_in _ (by omega))) rfl rfl rfl ?_ | refine q_val (e_nilCheck rfl rfl) rfl rfl rfl ?_ | refine q_val (e_quo rfl rfl rfl (by omega) (by omega) (IntWalk.i64_in _ (by omega))) rfl rfl rfl ?_ | refine q_val (e_max rfl rfl rfl) rfl rfl rfl ?_) | (with_reducible refine q_nil ?_)))
        have : GetI (L.set i s) i s := ⟨List.getElem?_set_self (by omega)⟩
        have hsl : s.xs.length ≤ 12 := by rw [hsx, needRow_len]; omega
        (repeat' (first | ((with_reducible refine isOps ?_); first | refine u_move rfl rfl rfl rfl rfl ?_ | (refine x_load rfl rfl rfl rfl rfl ?_; refine ⟨_, rfl, ?_⟩) | (refine u_append (enc := encI) [_] rfl rfl rfl rfl rfl (by (repeat (first | exact Take.here _ _ | apply Take.there))) rfl rfl (src_one (by exact rfl)) (by refine ⟨?_, by decide⟩; (try simp only [List.length_append, List.length_cons, List.length_nil]); omega) (fun A' c' => ?_)) | refine u_storeL (i := i) (s := s) ⟨A', s.xs ++ [_], c'⟩ rfl rfl rfl rfl rfl rfl (by (repeat (first | exact Take.here _ _ | apply Take.there))) (by omega) ?_ | refine u_add1 rfl rfl rfl rfl rfl rfl (by omega) ?_ | refine u_index rfl rfl rfl rfl rfl rfl rfl (by omega) ?_ | (refine x_buildSlice rfl rfl rfl rfl rfl ?_; refine ⟨rfl, _, rfl, fun b => ?_⟩)) | (with_reducible first | refine u_region ?_ | refine u_nil ?_ | refine u_then_n ?_ | refine u_in_n ?_)))
        exact u_again (j + 1, ⟨A', s.xs ++ [_], c'⟩) ⟨by simp only; omega, by simp only; rw [hsx, needRow_succ, eG, if_pos (by omega)]⟩ (by simp only; omega) (by simp only [eG]; rw [if_pos (by omega)]; (first | exact fun _ _ h => lk_nil h | (repeat (first | exact (fun _ _ h => lk_nil h) | (refine lk_sub rfl ?_))))) (by (repeat (first | exact Out.nil _ | (refine Out.cons (by (repeat (first | exact Take.here _ _ | apply Take.there))) ?_))))
      · have : GetI (L.set i s) i s := ⟨List.getElem?_set_self (by omega)⟩
        have hsl : s.xs.length ≤ 12 := by rw [hsx, needRow_len]; omega
        (repeat' (first | ((with_reducible refine isOps ?_); first | refine u_move rfl rfl rfl rfl rfl ?_ | (refine x_load rfl rfl rfl rfl rfl ?_; refine ⟨_, rfl, ?_⟩) | (refine u_append (enc := encI) [_] rfl rfl rfl rfl rfl (by (repeat (first | exact Take.here _ _ | apply Take.there))) rfl rfl (src_one (by exact rfl)) (by refine ⟨?_, by decide⟩; (try simp only [List.length_append, List.length_cons, List.length_nil]); omega) (fun A' c' => ?_)) | refine u_storeL (i := i) (s := s) ⟨A', s.xs ++ [_], c'⟩ rfl rfl rfl rfl rfl rfl (by (repeat (first | exact Take.here _ _ | apply Take.there))) (by omega) ?_ | refine u_add1 rfl rfl rfl rfl rfl rfl (by omega) ?_ | refine u_index rfl rfl rfl rfl rfl rfl rfl (by omega) ?_ | (refine x_buildSlice rfl rfl rfl rfl rfl ?_; refine ⟨rfl, _, rfl, fun b => ?_⟩)) | (with_reducible first | refine u_region ?_ | refine u_nil ?_ | refine u_then_n ?_ | refine u_in_n ?_)))
        exact u_again (j + 1, ⟨A', s.xs ++ [_], c'⟩) ⟨by simp only; omega, by simp only; rw [hsx, needRow_succ, eG, if_neg (by omega)]⟩ (by simp only; omega) (by simp only [eG]; rw [if_neg (by omega)]; (first | exact fun _ _ h => lk_nil h | (repeat (first | exact (fun _ _ h => lk_nil h) | (refine lk_sub rfl ?_))))) (by (repeat (first | exact Out.nil _ | (refine Out.cons (by (repeat (first | exact Take.here _ _ | apply Take.there))) ?_))))
    · obtain rfl : j = c.hours.length := by omega
      (repeat' (first | ((with_reducible refine isOps ?_); first | refine u_move rfl rfl rfl rfl rfl ?_ | (refine u_cmp rfl rfl rfl rfl rfl rfl rfl (fun h => ?_) (fun h => ?_) <;> (dsimp only [cmpP] at h; (try (exfalso; omega)))) | refine u_add1 rfl rfl rfl rfl rfl rfl (by omega) ?_) | (with_reducible first | refine u_seq ?_ | refine u_region ?_ | refine u_nil ?_ | refine u_then_n ?_ | refine u_exit ?_ | refine u_in_n ?_ | refine u_in_same ?_ | refine u_then_e ?_) | ((with_reducible refine u_cond_f ?_ ?_); (· exact rfl))))
      refine u_tabShut i s hs0 (by (repeat (first | exact Take.here _ _ | apply Take.there))) (by (repeat (first | exact Take.here _ _ | apply Take.there))) (by (repeat (first | exact Take.here _ _ | apply Take.there))) ?_
      refine u_again (i + 1, L.set i s) ⟨by simp only; omega, ?_⟩ (by simp only; omega) (by (first | exact fun _ _ h => lk_nil h | (repeat (first | exact (fun _ _ h => lk_nil h) | (refine lk_sub rfl ?_))))) (by (repeat (first | exact Out.nil _ | (refine Out.cons (by (repeat (first | exact Take.here _ _ | apply Take.there))) ?_))))
      simp only
      rw [List.map_set, hL, hsx, doneRows_set hz]
  · obtain rfl : i = c.beds.length := by omega
    (repeat' (first | ((with_reducible refine isOps ?_); first | refine u_move rfl rfl rfl rfl rfl ?_ | refine u_assign rfl rfl rfl rfl rfl ?_ | (refine u_cmp rfl rfl rfl rfl rfl rfl rfl (fun h => ?_) (fun h => ?_) <;> (dsimp only [cmpP] at h; (try (exfalso; omega))))) | (with_reducible first | refine u_seq ?_ | refine u_region ?_ | refine u_nil ?_ | refine u_then_n ?_ | refine u_ret ?_ | refine u_exit ?_ | refine u_in_same ?_ | refine u_then_e ?_) | ((with_reducible refine u_cond_f ?_ ?_); (· exact rfl))))
    refine u_done (by (exact ResL.cons (by exact Res1.tmp rfl) ResL.nil)) (gt, L) ?_ (by rw [hLl]; rfl) (fun _ h => h.sub (by (repeat (first | exact Out.nil _ | (refine Out.cons (by (repeat (first | exact Take.here _ _ | apply Take.there))) ?_)))))
    rw [hL, doneRows_end]
end Go.Proofs.YtdigopgncfhiaaaDoor
/- Ice: what stretches need, by the reference; Need, both. -/
namespace Go.Proofs.YtdigopgncfhiaaaDoor
open Go.RowKit
set_option linter.unusedSimpArgs false
set_option linter.unusedVariables false
set_option maxRecDepth 20000
/-- one more until it is enough -/
theorem need_lt {n0 n L k : Int} (hL : 0 < L) (h : n * L < k) : n < (if 0 < k then max n0 ((k + L - 1) / L) else n0) ∨ k ≤ 0 := by
  by_cases hk : 0 < k
  · left
    rw [if_pos hk]
    have h1 : n + 1 ≤ (k + L - 1) / L := by
      rw [Int.le_ediv_iff_mul_le hL, Int.add_mul, Int.one_mul]; omega
    omega
  · right; omega
theorem need_ge {n0 n L k : Int} (hL : 0 < L) (h0 : n0 ≤ n) (h : k ≤ n * L) : (if 0 < k then max n0 ((k + L - 1) / L) else n0) ≤ n := by
  by_cases hk : 0 < k
  · rw [if_pos hk]
    have h1 : (k + L - 1) / L < n + 1 := by
      apply Int.ediv_lt_of_lt_mul hL
      rw [Int.add_mul, Int.one_mul]; omega
    omega
  · rw [if_neg hk]; exact h0
set_option maxHeartbeats 4000000 in
theorem rneeds_any (c : Cov) (A : Option Addr) (ca : Nat) (B : Option Addr) (cb : Nat) (C : Option Addr) (cc : Nat) (w : World) (h : CovAt w c A B C) (hs : Small c) (hf : Fine c) :
    Ret Tryd.prog 40 [vCov c A ca B cb C cc] w (fun p : Nat × List (SlOf Int) => .slice (some ⟨p.1, 0, none⟩) p.2.length p.2.length) (fun p => [.tabG encOf (rowOf encI 1 3) p.1 p.2]) (fun p => p.2.map (·.xs) = needsL c) := by
  have h4 := hs.b; have h5 := hs.h
  have hb := h.b; have hh := h.h
  have hlo := fun W (hb : Below w.heap.size w W) i j z u (hz : c.beds[i]? = some z) (hu : c.hours[j]? = some u) => Two.rloss2_any c A ca B cb C cc i j z u W (h.below hb) hs hf hz hu
  have has := fun W (hb : Below w.heap.size w W) j u (hu : c.hours[j]? = some u) => rasks2_any c A ca B cb C cc j u W (h.below hb) hs hu
  unfold vSp vCov at hlo
  unfold vCov at has
  unfold cellsCov at hlo has
  unfold vCov cellsCov
  (refine ret_enter (n := 64) Tryd.func40 rfl rfl rfl ?_)
  (repeat' (first | ((with_reducible refine isOps ?_); first | refine u_assign rfl rfl rfl rfl rfl ?_ | (refine x_load rfl rfl rfl rfl rfl ?_; refine ⟨_, rfl, ?_⟩) | refine u_field rfl rfl rfl rfl rfl ?_ | refine u_makeC rfl rfl rfl rfl rfl rfl rfl rfl rfl rfl rfl (by omega) (fun gt => ?_) | refine u_len rfl rfl rfl rfl rfl ?_ | (refine u_box rfl rfl rfl rfl rfl rfl (fun b => ?_))) | (with_reducible first | refine u_seq ?_ | refine u_region ?_ | refine u_nil ?_ | refine u_then_n ?_ | refine u_block ?_)))
  obtain ⟨b1, hb1⟩ : ∃ b1, b1 = b := ⟨_, rfl⟩
  subst hb1
  refine u_tabNew (enc := encI) (k := 1) (e := 3) (Take.here _ _) ?_
  refine u_loopP (ι := Nat × List (SlOf Int)) [1, 3] rfl (fun p => p.1 ≤ c.beds.length ∧ p.2.map (·.xs) = doneRows c p.1) (fun p => [(4, .int .i64 (p.1 : Int))]) (fun p => [.tabG encOf (rowOf encI 1 3) gt p.2, .blk b1 (cellsCov c A ca B cb C cc)]) (fun p => c.beds.length - p.1) (0, List.replicate c.beds.length nilOf) ⟨Nat.zero_le _, by simp [doneRows_zero, nilOf]⟩ (by (first | exact fun _ _ h => lk_nil h | (repeat (first | exact (fun _ _ h => lk_nil h) | (refine lk_sub rfl ?_))))) (by (repeat (first | exact Out.nil _ | (refine Out.cons (by (repeat (first | exact Take.here _ _ | apply Take.there))) ?_)))) ?_
  rintro ⟨i, L⟩ ⟨hi, hL⟩
  simp only at hi hL
  have hLl : L.length = c.beds.length := by
    have := congrArg List.length hL
    simp [doneRows] at this; omega
  simp only [zipR, cellsCov, List.cons_append, List.nil_append]
  by_cases hlt : i < c.beds.length
  · obtain ⟨z, hz⟩ : ∃ z, c.beds[i]? = some z := ⟨_, List.getElem?_eq_getElem hlt⟩
    obtain ⟨bb, o, rfl, _, _⟩ := hb.at_ hlt
    have : InS w bb o encBed 3 c.beds := ⟨hb⟩
    have : GetI c.beds i z := ⟨hz⟩
    obtain ⟨s0, hs0⟩ : ∃ s0, L[i]? = some s0 := ⟨_, List.getElem?_eq_getElem (by omega)⟩
    have hx0 : s0.xs = [] := by
      have h1 := doneRows_at (c := c) hlt
      rw [← hL, List.getElem?_map, hs0] at h1
      exact Option.some.inj h1
    (repeat' (first | ((with_reducible refine isOps ?_); first | refine u_move rfl rfl rfl rfl rfl ?_ | refine u_assign rfl rfl rfl rfl rfl ?_ | (refine x_load rfl rfl rfl rfl rfl ?_; refine ⟨_, rfl, ?_⟩) | refine u_field rfl rfl rfl rfl rfl ?_ | (refine u_cmp rfl rfl rfl rfl rfl rfl rfl (fun h => ?_) (fun h => ?_) <;> (dsimp only [cmpP] at h; (try (exfalso; omega)))) | refine u_index rfl rfl rfl rfl rfl rfl rfl (by omega) ?_ | refine u_len rfl rfl rfl rfl rfl ?_) | (with_reducible first | refine u_seq ?_ | refine u_region ?_ | refine u_nil ?_ | refine u_then_n ?_ | refine u_skip ?_ | refine u_block ?_) | ((with_reducible refine u_cond_t ?_ ?_); (· exact rfl))))
    refine u_tabOpen i hs0 (by (repeat (first | exact Take.here _ _ | apply Take.there))) ?_
    refine u_loopP (ι := Nat × SlOf Int) [1, 3, 4] rfl (fun p => p.1 ≤ c.hours.length ∧ p.2.xs = needRow c z p.1) (fun p => [(7, .int .i64 (p.1 : Int)), (5, .int .i64 (needG c z p.1).1), (6, .int .i64 (needG c z p.1).2)]) (fun p => [.arr encOf 1 gt (L.set i p.2), rowOf encI 1 3 p.2, .all ((L.eraseIdx i).map (rowOf encI 1 3)), .blk b1 (cellsCov c A ca (some ⟨bb, o, none⟩) cb C cc)]) (fun p => c.hours.length - p.1) (0, s0) ⟨Nat.zero_le _, by rw [hx0]; rfl⟩ (by (first | exact fun _ _ h => lk_nil h | (repeat (first | exact (fun _ _ h => lk_nil h) | (refine lk_sub rfl ?_))))) (by (repeat (first | exact Out.nil _ | (refine Out.cons (by (repeat (first | exact Take.here _ _ | apply Take.there))) ?_)))) ?_
    rintro ⟨j, s⟩ ⟨hj, hsx⟩
    simp only at hj hsx
    simp only [zipR, cellsCov, List.cons_append, List.nil_append]
    by_cases hjl : j < c.hours.length
    · obtain ⟨u, hu⟩ : ∃ u, c.hours[j]? = some u := ⟨_, List.getElem?_eq_getElem hjl⟩
      have hG1 := needG_in hf (List.mem_of_getElem? hz) j hj
      have hG2 := needG_in hf (List.mem_of_getElem? hz) (j + 1) (by omega)
      have l1 := lossC_in hf (List.mem_of_getElem? hz) (List.mem_of_getElem? hu)
      have a1 := asksC_in (u := u) hf
      have y1 := hf.layer
      simp only [knownB_iff] at y1
      have eG : needG c z (j + 1) = ((needG c z j).1 - (lossC c z u).hi, if 0 < asksC c u - ((needG c z j).1 - (lossC c z u).hi) then max (needG c z j).2 ((asksC c u - ((needG c z j).1 - (lossC c z u).hi) + c.layer.lo - 1) / c.layer.lo) else (needG c z j).2) := by simp only [needG, getD_of hu]
      (repeat' (first | ((with_reducible refine isOps ?_); first | refine u_move rfl rfl rfl rfl rfl ?_ | refine u_assign rfl rfl rfl rfl rfl ?_ | (refine x_load rfl rfl rfl rfl rfl ?_; refine ⟨_, rfl, ?_⟩) | refine u_field rfl rfl rfl rfl rfl ?_ | (refine u_cmp rfl rfl rfl rfl rfl rfl rfl (fun h => ?_) (fun h => ?_) <;> (dsimp only [cmpP] at h; (try (exfalso; omega)))) | refine u_gives rfl rfl rfl rfl rfl rfl (fun _ _ q => hlo _ q.below i j z u hz hu) ?_ | refine u_val rfl rfl rfl (e_spanHi rfl rfl) ?_ | refine u_sub rfl rfl rfl rfl rfl rfl (IntWalk.i64_in _ (by omega)) ?_ | refine u_len rfl rfl rfl rfl rfl ?_) | (with_reducible first | refine u_seq ?_ | refine u_region ?_ | refine u_nil ?_ | refine u_then_n ?_ | refine u_skip ?_ | refine u_block ?_) | ((with_reducible refine u_cond_t ?_ ?_); (· exact rfl))))
      refine u_loopP (ι := Int) [1, 3, 4, 7, 5] rfl (fun n => (needG c z j).2 ≤ n ∧ n ≤ (needG c z (j + 1)).2) (fun n => [(6, .int .i64 n)]) (fun _ => [.arr encOf 1 gt (L.set i s), rowOf encI 1 3 s, .all ((L.eraseIdx i).map (rowOf encI 1 3)), .blk b1 (cellsCov c A ca (some ⟨bb, o, none⟩) cb C cc)]) (fun n => ((needG c z (j + 1)).2 - n).toNat) (needG c z j).2 ⟨Int.le_refl _, by rw [eG]; simp only; split <;> omega⟩ (by (first | exact fun _ _ h => lk_nil h | (repeat (first | exact (fun _ _ h => lk_nil h) | (refine lk_sub rfl ?_))))) (by (repeat (first | exact Out.nil _ | (refine Out.cons (by (repeat (first | exact Take.here _ _ | apply Take.there))) ?_)))) ?_
      rintro n ⟨hn0, hn1⟩
      simp only [zipR, cellsCov, List.cons_append, List.nil_append]
      have hm1 : 0 ≤ n * c.layer.lo := Int.mul_nonneg (by omega) (by omega)
      have hm2 : n * c.layer.lo ≤ 30000 * 100 := Int.mul_le_mul (by omega) (by omega) (by omega) (by omega)
      (repeat' (first | (with_reducible first | refine u_seq ?_)))
      (refine u_quiet (by kernel_rfl) (by kernel_rfl) (by kernel_rfl) ?_)
      (repeat' (first | ((with_reducible refine isOpsQ ?_); first | refine q_val (e_move rfl rfl) rfl rfl rfl ?_ | refine q_val (e_load' rfl rfl (by exact rfl)) rfl rfl rfl ?_ | refine q_val (e_field rfl rfl) rfl rfl rfl ?_ | (refine q_cmp rfl rfl rfl rfl rfl rfl rfl (fun h => ?_) (fun h => ?_) <;> (dsimp only [cmpP] at h; (try (exfalso; omega)))) | refine q_gives rfl rfl rfl rfl rfl rfl (fun _ _ q => has _ q.below j u hu) ?_ | refine q_val (e_add rfl rfl rfl (IntWalk.i64_in _ (by omega))) rfl rfl rfl ?_ | refine q_val (e_mul rfl rfl rfl (IntWalk.i64_in _ (by omega))) rfl rfl rfl ?_) | (with_reducible refine q_nil ?_)))
      · (repeat' (first | ((with_reducible refine isOps ?_); first | refine u_move rfl rfl rfl rfl rfl ?_ | refine u_assign rfl rfl rfl rfl rfl ?_ | refine u_add rfl rfl rfl rfl rfl rfl (IntWalk.i64_in _ (by omega)) ?_) | (with_reducible first | refine u_region ?_ | refine u_nil ?_ | refine u_then_n ?_ | refine u_skip ?_ | refine u_block ?_ | refine u_in_n ?_) | ((with_reducible refine u_cond_t ?_ ?_); (· exact rfl))))
        have hlt9 : n < (needG c z (j + 1)).2 := by
          rcases need_lt (n0 := (needG c z j).2) (n := n) (L := c.layer.lo) (k := asksC c u - ((needG c z j).1 - (lossC c z u).hi)) (by omega) (by omega) with h9 | h9
          · rw [eG]; exact h9
          · omega
        exact u_again (n + 1) ⟨by omega, by omega⟩ (by omega) (by (first | exact fun _ _ h => lk_nil h | (repeat (first | exact (fun _ _ h => lk_nil h) | (refine lk_sub rfl ?_))))) (by (repeat (first | exact Out.nil _ | (refine Out.cons (by (repeat (first | exact Take.here _ _ | apply Take.there))) ?_))))
      · have e9 : (needG c z (j + 1)).2 = n := by
          have := need_ge (n0 := (needG c z j).2) (n := n) (L := c.layer.lo) (k := asksC c u - ((needG c z j).1 - (lossC c z u).hi)) (by omega) hn0 (by omega)
          have h8 : (needG c z (j + 1)).2 ≤ n := by rw [eG]; exact this
          omega
        have e8 : (needG c z (j + 1)).1 = (needG c z j).1 - (lossC c z u).hi := by rw [eG]
        have : GetI (L.set i s) i s := ⟨List.getElem?_set_self (by omega)⟩
        have hsl : s.xs.length ≤ 12 := by rw [hsx, needRow_len]; omega
        (repeat' (first | ((with_reducible refine isOps ?_); first | refine u_move rfl rfl rfl rfl rfl ?_ | refine u_assign rfl rfl rfl rfl rfl ?_ | (refine x_load rfl rfl rfl rfl rfl ?_; refine ⟨_, rfl, ?_⟩) | (refine u_append (enc := encI) [_] rfl rfl rfl rfl rfl (by (repeat (first | exact Take.here _ _ | apply Take.there))) rfl rfl (src_one (by exact rfl)) (by refine ⟨?_, by decide⟩; (try simp only [List.length_append, List.length_cons, List.length_nil]); omega) (fun A' c' => ?_)) | refine u_storeL (i := i) (s := s) ⟨A', s.xs ++ [_], c'⟩ rfl rfl rfl rfl rfl rfl (by (repeat (first | exact Take.here _ _ | apply Take.there))) (by omega) ?_ | refine u_add1 rfl rfl rfl rfl rfl rfl (by omega) ?_ | refine u_index rfl rfl rfl rfl rfl rfl rfl (by omega) ?_ | (refine x_buildSlice rfl rfl rfl rfl rfl ?_; refine ⟨rfl, _, rfl, fun b => ?_⟩)) | (with_reducible first | refine u_region ?_ | refine u_nil ?_ | refine u_then_n ?_ | refine u_exit ?_ | refine u_in_n ?_ | refine u_in_same ?_ | refine u_then_e ?_) | ((with_reducible refine u_cond_f ?_ ?_); (· exact rfl))))
        exact u_again (j + 1, ⟨A', s.xs ++ [_], c'⟩) ⟨by simp only; omega, by simp only; rw [hsx, needRow_succ, e9]⟩ (by simp only; omega) (by simp only [e8, e9]; (first | exact fun _ _ h => lk_nil h | (repeat (first | exact (fun _ _ h => lk_nil h) | (refine lk_sub rfl ?_))))) (by (repeat (first | exact Out.nil _ | (refine Out.cons (by (repeat (first | exact Take.here _ _ | apply Take.there))) ?_))))
    · obtain rfl : j = c.hours.length := by omega
      (repeat' (first | ((with_reducible refine isOps ?_); first | refine u_move rfl rfl rfl rfl rfl ?_ | refine u_assign rfl rfl rfl rfl rfl ?_ | (refine x_load rfl rfl rfl rfl rfl ?_; refine ⟨_, rfl, ?_⟩) | refine u_field rfl rfl rfl rfl rfl ?_ | (refine u_cmp rfl rfl rfl rfl rfl rfl rfl (fun h => ?_) (fun h => ?_) <;> (dsimp only [cmpP] at h; (try (exfalso; omega)))) | refine u_add1 rfl rfl rfl rfl rfl rfl (by omega) ?_ | refine u_len rfl rfl rfl rfl rfl ?_) | (with_reducible first | refine u_seq ?_ | refine u_region ?_ | refine u_nil ?_ | refine u_then_n ?_ | refine u_exit ?_ | refine u_in_n ?_ | refine u_in_same ?_ | refine u_then_e ?_) | ((with_reducible refine u_cond_f ?_ ?_); (· exact rfl))))
      refine u_tabShut i s hs0 (by (repeat (first | exact Take.here _ _ | apply Take.there))) (by (repeat (first | exact Take.here _ _ | apply Take.there))) (by (repeat (first | exact Take.here _ _ | apply Take.there))) ?_
      refine u_again (i + 1, L.set i s) ⟨by simp only; omega, ?_⟩ (by simp only; omega) (by (first | exact fun _ _ h => lk_nil h | (repeat (first | exact (fun _ _ h => lk_nil h) | (refine lk_sub rfl ?_))))) (by (repeat (first | exact Out.nil _ | (refine Out.cons (by (repeat (first | exact Take.here _ _ | apply Take.there))) ?_))))
      simp only
      rw [List.map_set, hL, hsx, doneRows_set hz]
  · obtain rfl : i = c.beds.length := by omega
    (repeat' (first | ((with_reducible refine isOps ?_); first | refine u_move rfl rfl rfl rfl rfl ?_ | refine u_assign rfl rfl rfl rfl rfl ?_ | (refine x_load rfl rfl rfl rfl rfl ?_; refine ⟨_, rfl, ?_⟩) | refine u_field rfl rfl rfl rfl rfl ?_ | (refine u_cmp rfl rfl rfl rfl rfl rfl rfl (fun h => ?_) (fun h => ?_) <;> (dsimp only [cmpP] at h; (try (exfalso; omega)))) | refine u_len rfl rfl rfl rfl rfl ?_) | (with_reducible first | refine u_seq ?_ | refine u_region ?_ | refine u_nil ?_ | refine u_then_n ?_ | refine u_ret ?_ | refine u_exit ?_ | refine u_in_same ?_ | refine u_then_e ?_) | ((with_reducible refine u_cond_f ?_ ?_); (· exact rfl))))
    refine u_done (by (exact ResL.cons (by exact Res1.tmp rfl) ResL.nil)) (gt, L) ?_ (by rw [hLl]; rfl) (fun _ h => h.sub (by (repeat (first | exact Out.nil _ | (refine Out.cons (by (repeat (first | exact Take.here _ _ | apply Take.there))) ?_)))))
    rw [hL, doneRows_end]
/-- Need: the greatest of each row, or the error -/
def needT (c : Cov) : List Int × Int := if errI c = 0 then ((needsL c).map Flow.maxL, 0) else ([], errI c)
theorem needsL_len {c : Cov} : (needsL c).length = c.beds.length := by simp [needsL]
theorem needsL_row {c : Cov} : ∀ r ∈ needsL c, r.length = c.hours.length := fun r hr => by
  obtain ⟨z, _, rfl⟩ := List.mem_map.1 hr
  exact needRow_len
theorem Ret.newsl {α : Type} {enc : α → List Value} {k : Nat} {xs : List α} {V : Value → Value} {P : Program} {f : FuncId} {args : List Value} {w : World} (h : Ret P f args w (fun p : Option Addr × Nat => V (.slice p.1 xs.length p.2)) (fun p => [.sl enc k p.1 xs]) (fun _ => True)) : NewSl enc k xs V P f args w := by
  unfold NewSl; exact h
theorem needG_mono {c : Cov} {z : Bed} (h : Nat) : (needG c z h).2 ≤ (needG c z (h + 1)).2 := by
  simp only [needG]; split <;> omega
theorem needG_le {c : Cov} {z : Bed} (h : Nat) : ∀ k, (needG c z h).2 ≤ (needG c z (h + k)).2
  | 0 => Int.le_refl _
  | k + 1 => Int.le_trans (needG_le h k) (needG_mono (h + k))
theorem needRow_max {c : Cov} {z : Bed} {m : Nat} : Flow.maxL (needRow c z (m + 1)) = (needG c z (m + 1)).2 := by
  have h1 : (needG c z (m + 1)).2 ∈ needRow c z (m + 1) := by
    unfold needRow; exact List.mem_map.2 ⟨m, by simp, rfl⟩
  have h2 := Flow.maxL_ge h1
  have h3 : Flow.maxL (needRow c z (m + 1)) ∈ needRow c z (m + 1) := Flow.maxL_mem (by intro e; rw [e] at h1; cases h1)
  unfold needRow at h3
  obtain ⟨k, hk, e⟩ := List.mem_map.1 h3
  have hk := List.mem_range.1 hk
  have h4 := needG_le (c := c) (z := z) (k + 1) (m - k)
  rw [show k + 1 + (m - k) = m + 1 by omega] at h4
  have e' : (needG c z (k + 1)).2 = Flow.maxL (needRow c z (m + 1)) := e
  omega
set_option maxHeartbeats 4000000 in
theorem iNeed_any (c : Cov) (A : Option Addr) (ca : Nat) (B : Option Addr) (cb : Nat) (C : Option Addr) (cc : Nat) (w : World) (h : CovAt w c A B C) (hs : Small c) (hG : InC w 0 0 limC) :
    NewSl encI 1 (needT c).1 (fun v => .tuple #[v, .int .i64 (needT c).2]) Tryd.prog 8 [vCov c A ca B cb C cc] w := by
  have h4 := hs.b; have h5 := hs.h
  have h1 := fun W (hb : Below w.heap.size w W) => iopen_no c A ca B cb C cc W (h.below hb) hs
  have h2 := fun W (hb : Below w.heap.size w W) => iopen_ok c A ca B cb C cc W (h.below hb) hs
  unfold vCov at h1 h2
  apply Ret.newsl
  unfold vCov needT
  by_cases h0 : errI c = 0
  · have hf := fine_of h0
    have hh1 := hf.hours
    rw [inB_iff] at hh1
    have h3 := fun W (hb : Below w.heap.size w W) g (hr : InC W g 0 (cellsCov c A ca B cb C cc)) => ineeds_any c A ca B cb C cc g W hr (hG.below hb) (h.below hb) hs hf
    rw [if_pos h0]
    unfold cellsCov at h2 h3 ⊢
    (refine ret_enter (n := 31) Tryd.func8 rfl rfl rfl ?_)
    (repeat' (first | ((with_reducible refine isOps ?_); first | refine u_move rfl rfl rfl rfl rfl ?_ | refine u_assign rfl rfl rfl rfl rfl ?_ | (refine x_load rfl rfl rfl rfl rfl ?_; refine ⟨_, rfl, ?_⟩) | (refine u_cmp rfl rfl rfl rfl rfl rfl rfl (fun h => ?_) (fun h => ?_) <;> (dsimp only [cmpP] at h; (try (exfalso; omega)))) | (refine u_call rfl rfl rfl rfl rfl rfl (fun _ _ q => h2 _ q.below h0) ?_; rintro g -; dsimp only [List.cons_append, List.nil_append]) | (refine u_call rfl rfl rfl rfl rfl rfl (fun _ _ q => h3 _ q.below g (cells_by q.own (Below.refl _ _) rfl)) ?_; rintro ⟨gt, L⟩ hL; dsimp only [List.cons_append, List.nil_append]) | refine u_extract rfl rfl rfl rfl rfl rfl ?_ | refine u_len rfl rfl rfl rfl rfl ?_ | (refine u_box rfl rfl rfl rfl rfl rfl (fun b => ?_))) | (with_reducible first | refine u_seq ?_ | refine u_region ?_ | refine u_nil ?_ | refine u_then_n ?_ | refine u_skip ?_ | refine u_block ?_) | ((with_reducible refine u_cond_f ?_ ?_); (· exact rfl))))
    simp only at hL
    have hLl : L.length = c.beds.length := by
      have := congrArg List.length hL
      rw [needsL_len] at this; simpa using this
    have hrow : ∀ s ∈ L, s.xs.length = c.hours.length := fun s hs => needsL_row s.xs (by rw [← hL]; exact List.mem_map_of_mem hs)
    rw [← hL]
    refine u_rowNil (enc := encI) (k := 1) (e := 3) ?_
    refine u_loopP (ι := Nat × Option Addr × Nat) [18, 19] rfl (fun p => p.1 ≤ L.length) (fun p => [(20, .int .i64 (p.1 : Int)), (6, .slice p.2.1 (((L.take p.1).map (·.xs)).map Flow.maxL).length p.2.2)]) (fun p => [.row encI 1 3 (.slice p.2.1 (((L.take p.1).map (·.xs)).map Flow.maxL).length p.2.2) (((L.take p.1).map (·.xs)).map Flow.maxL), .tabG encOf (rowOf encI 1 3) gt L]) (fun p => L.length - p.1) (0, none, 0) (Nat.zero_le _) (by (first | exact fun _ _ h => lk_nil h | (repeat (first | exact (fun _ _ h => lk_nil h) | (refine lk_sub rfl ?_))))) (by (repeat (first | exact Out.nil _ | (refine Out.cons (by (repeat (first | exact Take.here _ _ | apply Take.there))) ?_)))) ?_
    rintro ⟨i, A1, c1⟩ hi
    simp only at hi
    simp only [zipR, List.cons_append, List.nil_append]
    by_cases hlt : i < L.length
    · obtain ⟨s, hs1⟩ : ∃ s, L[i]? = some s := ⟨_, List.getElem?_eq_getElem hlt⟩
      have : GetI L i s := ⟨hs1⟩
      have hsm := List.mem_of_getElem? hs1
      have hsl := hrow s hsm
      have hcl : (((L.take i).map (·.xs)).map Flow.maxL).length = i := by simp; omega
      have e1 : ((L.take (i + 1)).map (·.xs)).map Flow.maxL = ((L.take i).map (·.xs)).map Flow.maxL ++ [Flow.maxL s.xs] := by rw [List.take_add_one, hs1]; simp
      (repeat' (first | ((with_reducible refine isOps ?_); first | refine u_move rfl rfl rfl rfl rfl ?_ | refine u_assign rfl rfl rfl rfl rfl ?_ | (refine x_load rfl rfl rfl rfl rfl ?_; refine ⟨_, rfl, ?_⟩) | (refine u_cmp rfl rfl rfl rfl rfl rfl rfl (fun h => ?_) (fun h => ?_) <;> (dsimp only [cmpP] at h; (try (exfalso; omega)))) | refine u_gives rfl rfl rfl rfl rfl rfl (fun _ _ q => max_any s.xs s.A s.c _ ((tab_at (enc := encI) (k := 1) (e := 3) q.own (by (repeat (first | exact Take.here _ _ | apply Take.there)))).rows s hsm) (by omega) (by omega)) ?_ | (refine u_append (enc := encI) [_] rfl rfl rfl rfl rfl (by (repeat (first | exact Take.here _ _ | apply Take.there))) rfl rfl (src_one (by exact rfl)) (by refine ⟨?_, by decide⟩; (try simp only [List.length_append, List.length_cons, List.length_nil]); omega) (fun A' c' => ?_)) | refine u_add1 rfl rfl rfl rfl rfl rfl (by omega) ?_ | refine u_index rfl rfl rfl rfl rfl rfl rfl (by omega) ?_ | (refine x_buildSlice rfl rfl rfl rfl rfl ?_; refine ⟨rfl, _, rfl, fun b => ?_⟩)) | (with_reducible first | refine u_seq ?_ | refine u_region ?_ | refine u_nil ?_ | refine u_then_n ?_ | refine u_skip ?_ | refine u_block ?_ | refine u_in_n ?_) | ((with_reducible refine u_cond_t ?_ ?_); (· exact rfl))))
      refine u_again (i + 1, A', c') (by simp only; omega) (by simp only; omega) (by simp only [e1]; (first | exact fun _ _ h => lk_nil h | (repeat (first | exact (fun _ _ h => lk_nil h) | (refine lk_sub rfl ?_))))) ?_
      simp only [e1]
      (repeat (first | exact Out.nil _ | (refine Out.cons (by (repeat (first | exact Take.here _ _ | apply Take.there))) ?_)))
    · obtain rfl : i = L.length := by omega
      rw [List.take_length]
      (repeat' (first | ((with_reducible refine isOps ?_); first | refine u_move rfl rfl rfl rfl rfl ?_ | refine u_assign rfl rfl rfl rfl rfl ?_ | (refine u_cmp rfl rfl rfl rfl rfl rfl rfl (fun h => ?_) (fun h => ?_) <;> (dsimp only [cmpP] at h; (try (exfalso; omega))))) | (with_reducible first | refine u_seq ?_ | refine u_region ?_ | refine u_nil ?_ | refine u_then_n ?_ | refine u_ret ?_ | refine u_exit ?_ | refine u_in_same ?_ | refine u_then_e ?_) | ((with_reducible refine u_cond_f ?_ ?_); (· exact rfl))))
      exact u_done (by (exact ResL.cons (by exact Res1.tmp rfl) (ResL.cons (by exact Res1.tmp rfl) ResL.nil))) (A1, c1) trivial rfl (fun _ h => (h.row_sl (by (repeat (first | exact Take.here _ _ | apply Take.there)))).sub (by (repeat (first | exact Out.nil _ | (refine Out.cons (by (repeat (first | exact Take.here _ _ | apply Take.there))) ?_)))))
  · rw [if_neg h0]
    unfold cellsCov at h1 ⊢
    generalize errI c = e at *
    (refine ret_enter (n := 31) Tryd.func8 rfl rfl rfl ?_)
    (repeat' (first | ((with_reducible refine isOps ?_); first | refine u_move rfl rfl rfl rfl rfl ?_ | refine u_assign rfl rfl rfl rfl rfl ?_ | (refine x_load rfl rfl rfl rfl rfl ?_; refine ⟨_, rfl, ?_⟩) | (refine u_cmp rfl rfl rfl rfl rfl rfl rfl (fun h => ?_) (fun h => ?_) <;> (dsimp only [cmpP] at h; (try (exfalso; omega)))) | refine u_gives rfl rfl rfl rfl rfl rfl (fun _ _ q => h1 _ q.below h0) ?_ | refine u_extract rfl rfl rfl rfl rfl rfl ?_ | (refine u_box rfl rfl rfl rfl rfl rfl (fun b => ?_))) | (with_reducible first | refine u_seq ?_ | refine u_region ?_ | refine u_nil ?_ | refine u_then_n ?_ | refine u_ret ?_ | refine u_then_r ?_) | ((with_reducible refine u_cond_t ?_ ?_); (· exact rfl))))
    exact u_done (by (exact ResL.cons (by exact Res1.tmp rfl) (ResL.cons (by exact Res1.tmp rfl) ResL.nil))) (none, 0) trivial rfl (fun _ h => sl_nil h)
set_option maxHeartbeats 4000000 in
theorem rNeed_any (c : Cov) (A : Option Addr) (ca : Nat) (B : Option Addr) (cb : Nat) (C : Option Addr) (cc : Nat) (w : World) (h : CovAt w c A B C) (hs : Small c) :
    NewSl encI 1 (needT c).1 (fun v => .tuple #[v, .int .i64 (needT c).2]) Tryd.prog 9 [vCov c A ca B cb C cc] w := by
  have h4 := hs.b; have h5 := hs.h
  have h1 := fun W (hb : Below w.heap.size w W) => rcheck2_any c A ca B cb C cc W (h.below hb) hs
  unfold vCov at h1
  apply Ret.newsl
  unfold vCov needT
  by_cases h0 : errI c = 0
  · have hf := fine_of h0
    have hh1 := hf.hours
    rw [inB_iff] at hh1
    have h3 := fun W (hb : Below w.heap.size w W) => rneeds_any c A ca B cb C cc W (h.below hb) hs hf
    unfold vCov at h3
    rw [if_pos h0]
    rw [h0] at h1
    unfold cellsCov at h1 h3 ⊢
    (refine ret_enter (n := 35) Tryd.func9 rfl rfl rfl ?_)
    (repeat' (first | ((with_reducible refine isOps ?_); first | refine u_move rfl rfl rfl rfl rfl ?_ | refine u_assign rfl rfl rfl rfl rfl ?_ | (refine x_load rfl rfl rfl rfl rfl ?_; refine ⟨_, rfl, ?_⟩) | (refine u_cmp rfl rfl rfl rfl rfl rfl rfl (fun h => ?_) (fun h => ?_) <;> (dsimp only [cmpP] at h; (try (exfalso; omega)))) | refine u_gives rfl rfl rfl rfl rfl rfl (fun _ _ q => h1 _ q.below) ?_ | (refine u_call rfl rfl rfl rfl rfl rfl (fun _ _ q => h3 _ q.below) ?_; rintro ⟨gt, L⟩ hL; dsimp only [List.cons_append, List.nil_append]) | (refine u_box rfl rfl rfl rfl rfl rfl (fun b => ?_))) | (with_reducible first | refine u_seq ?_ | refine u_region ?_ | refine u_nil ?_ | refine u_then_n ?_ | refine u_skip ?_ | refine u_block ?_) | ((with_reducible refine u_cond_f ?_ ?_); (· exact rfl))))
    obtain ⟨b1, hb1⟩ : ∃ b1, b1 = b := ⟨_, rfl⟩
    subst hb1
    simp only at hL
    have hLl : L.length = c.beds.length := by
      have := congrArg List.length hL
      rw [needsL_len] at this; simpa using this
    have hrow : ∀ s ∈ L, s.xs.length = c.hours.length := fun s hs => needsL_row s.xs (by rw [← hL]; exact List.mem_map_of_mem hs)
    have hmax : ∀ s ∈ L, s.xs[c.hours.length - 1]? = some (Flow.maxL s.xs) := fun s hs => by
      have h9 : s.xs ∈ needsL c := by rw [← hL]; exact List.mem_map_of_mem hs
      obtain ⟨z, _, e⟩ := List.mem_map.1 h9
      obtain ⟨m, hm⟩ : ∃ m, c.hours.length = m + 1 := ⟨c.hours.length - 1, by omega⟩
      rw [← e, hm, needRow_max]
      unfold needRow
      rw [List.getElem?_map, List.getElem?_range (by omega)]; rfl
    rw [← hL]
    refine u_rowNil (enc := encI) (k := 1) (e := 3) ?_
    refine u_loopP (ι := Nat × Option Addr × Nat) [1, 6] rfl (fun p => p.1 ≤ L.length) (fun p => [(7, .int .i64 (p.1 : Int)), (5, .slice p.2.1 (((L.take p.1).map (·.xs)).map Flow.maxL).length p.2.2)]) (fun p => [.row encI 1 3 (.slice p.2.1 (((L.take p.1).map (·.xs)).map Flow.maxL).length p.2.2) (((L.take p.1).map (·.xs)).map Flow.maxL), .tabG encOf (rowOf encI 1 3) gt L, .blk b1 (cellsCov c A ca B cb C cc)]) (fun p => L.length - p.1) (0, none, 0) (Nat.zero_le _) (by (first | exact fun _ _ h => lk_nil h | (repeat (first | exact (fun _ _ h => lk_nil h) | (refine lk_sub rfl ?_))))) (by (repeat (first | exact Out.nil _ | (refine Out.cons (by (repeat (first | exact Take.here _ _ | apply Take.there))) ?_)))) ?_
    rintro ⟨i, A1, c1⟩ hi
    simp only at hi
    simp only [zipR, cellsCov, List.cons_append, List.nil_append]
    by_cases hlt : i < L.length
    · obtain ⟨s, hs1⟩ : ∃ s, L[i]? = some s := ⟨_, List.getElem?_eq_getElem hlt⟩
      have hsm := List.mem_of_getElem? hs1
      have hsl := hrow s hsm
      have hmx := hmax s hsm
      have hcl : (((L.take i).map (·.xs)).map Flow.maxL).length = i := by simp; omega
      have e1 : ((L.take (i + 1)).map (·.xs)).map Flow.maxL = ((L.take i).map (·.xs)).map Flow.maxL ++ [Flow.maxL s.xs] := by rw [List.take_add_one, hs1]; simp
      (repeat' (first | ((with_reducible refine isOps ?_); first | refine u_move rfl rfl rfl rfl rfl ?_ | (refine u_cmp rfl rfl rfl rfl rfl rfl rfl (fun h => ?_) (fun h => ?_) <;> (dsimp only [cmpP] at h; (try (exfalso; omega)))) | refine u_len rfl rfl rfl rfl rfl ?_) | (with_reducible first | refine u_seq ?_ | refine u_region ?_ | refine u_nil ?_ | refine u_then_n ?_ | refine u_skip ?_ | refine u_block ?_) | ((with_reducible refine u_cond_t ?_ ?_); (· exact rfl))))
      refine u_tabOpen i hs1 (by (repeat (first | exact Take.here _ _ | apply Take.there))) ?_
      obtain ⟨sA, sx, sc⟩ := s
      refine u_rowSome (A := sA) (xs := sx) (k := 1) (e := 3) (enc := encI) (m := sx.length) (c := sc) (Take.there _ (Take.here _ _)) (by simp only at hsl; omega) ?_
      rintro gs rfl
      simp only [rowOf]
      simp only at hsl hmx e1
      have : GetI sx (c.hours.length - 1) (Flow.maxL sx) := ⟨hmx⟩
      have : GetI (L.set i ⟨some ⟨gs, 0, none⟩, sx, sc⟩) i ⟨some ⟨gs, 0, none⟩, sx, sc⟩ := ⟨List.getElem?_set_self (by omega)⟩
      (refine u_chain (by kernel_rfl) [[], [false], [false, false], [true, true, false], [true, true, true, false], [false, false, false, false, false], [true, false, false, false, false, false], [true, true, false, false, false, false, false], [true, true, true, false, false, false, false, false], [true, true, true, true, true, true, true, true, false], [true, true, true, true, true, true, true, true, true, false], [true, true, true, true, true, true, true, true, true, true, false], [true, true, true, true, true, true, true, true, true, true, true, true], [true, true, true, true, true, true, true, true, true, true, true, true, true]] (by kernel_rfl) (by kernel_rfl) (by kernel_rfl) ?_)
      (repeat' (first | (((with_reducible refine c_go ?_ ?_); (· exact rfl); refine ⟨_, fun G => (by (try simp only [fltT, entsT, List.nil_append, List.cons_append]); rfl), ?_⟩); first | refine c_val _ (fun _ => e_move rfl rfl) (fun _ => rfl) rfl (by first | exact fun _ _ _ => rfl | (intro G G' h; simp (decide := true) only [h])) ?_ | refine c_val _ (fun _ => e_load' rfl rfl (by exact rfl)) (fun _ => rfl) rfl (by first | exact fun _ _ _ => rfl | (intro G G' h; simp (decide := true) only [h])) ?_ | (refine c_isField rfl ?_; refine c_val _ (fun _ => e_field rfl rfl) (fun _ => rfl) rfl (by first | exact fun _ _ _ => rfl | (intro G G' h; simp (decide := true) only [h])) ?_) | refine c_val _ (fun _ => e_index (I := c.hours.length - 1) rfl rfl rfl (by omega) (by dsimp only; omega)) (fun _ => rfl) rfl (by exact fun _ _ _ => rfl) ?_ | refine c_val _ (fun _ => e_sub rfl rfl rfl (IntWalk.i64_in _ (by omega))) (fun _ => rfl) rfl (by first | exact fun _ _ _ => rfl | (intro G G' h; simp (decide := true) only [h])) ?_ | refine c_val _ (fun _ => e_index rfl rfl rfl rfl (by omega)) (fun _ => rfl) rfl (by first | exact fun _ _ _ => rfl | (intro G G' h; simp (decide := true) only [h])) ?_ | refine c_val _ (fun _ => e_len rfl rfl) (fun _ => rfl) rfl (by first | exact fun _ _ _ => rfl | (intro G G' h; simp (decide := true) only [h])) ?_ | refine c_buildSlice rfl (fun _ => rfl) rfl (fun _ => rfl) (by exact rfl) (by exact fun _ => rfl) (by first | exact fun _ _ _ => rfl | (intro G G' h; simp (decide := true) only [h])) ?_) | ((with_reducible refine c_tail ?_ ?_); (· exact rfl))))
      (intro G; simp only [regsT, entsT, Pend.at_none, List.nil_append, List.cons_append])
      (repeat' (first | ((with_reducible refine isOps ?_); first | refine u_move rfl rfl rfl rfl rfl ?_ | refine u_assign rfl rfl rfl rfl rfl ?_ | (refine u_append (enc := encI) [_] rfl rfl rfl rfl rfl (by (repeat (first | exact Take.here _ _ | apply Take.there))) rfl rfl (src_one (by exact rfl)) (by refine ⟨?_, by decide⟩; (try simp only [List.length_append, List.length_cons, List.length_nil]); omega) (fun A' c' => ?_)) | refine u_add1 rfl rfl rfl rfl rfl rfl (by omega) ?_) | (with_reducible first | refine u_region ?_ | refine u_nil ?_ | refine u_then_n ?_ | refine u_in_n ?_)))
      refine u_tabShut0 i (s := ⟨some ⟨gs, 0, none⟩, sx, sc⟩) (re := rowOf encI 1 3) hs1 (by (repeat (first | exact Take.here _ _ | apply Take.there))) (by (repeat (first | exact Take.here _ _ | apply Take.there))) (by (repeat (first | exact Take.here _ _ | apply Take.there))) ?_
      refine u_again (i + 1, A', c') (by simp only; omega) (by simp only; omega) (by simp only [e1]; (first | exact fun _ _ h => lk_nil h | (repeat (first | exact (fun _ _ h => lk_nil h) | (refine lk_sub rfl ?_))))) ?_
      simp only [e1]
      (repeat (first | exact Out.nil _ | (refine Out.cons (by (repeat (first | exact Take.here _ _ | apply Take.there))) ?_)))
    · obtain rfl : i = L.length := by omega
      rw [List.take_length]
      (repeat' (first | ((with_reducible refine isOps ?_); first | refine u_move rfl rfl rfl rfl rfl ?_ | refine u_assign rfl rfl rfl rfl rfl ?_ | (refine u_cmp rfl rfl rfl rfl rfl rfl rfl (fun h => ?_) (fun h => ?_) <;> (dsimp only [cmpP] at h; (try (exfalso; omega)))) | refine u_len rfl rfl rfl rfl rfl ?_) | (with_reducible first | refine u_seq ?_ | refine u_region ?_ | refine u_nil ?_ | refine u_then_n ?_ | refine u_ret ?_ | refine u_exit ?_ | refine u_in_same ?_ | refine u_then_e ?_) | ((with_reducible refine u_cond_f ?_ ?_); (· exact rfl))))
      exact u_done (by (exact ResL.cons (by exact Res1.tmp rfl) (ResL.cons (by exact Res1.tmp rfl) ResL.nil))) (A1, c1) trivial rfl (fun _ h => (h.row_sl (by (repeat (first | exact Take.here _ _ | apply Take.there)))).sub (by (repeat (first | exact Out.nil _ | (refine Out.cons (by (repeat (first | exact Take.here _ _ | apply Take.there))) ?_)))))
  · rw [if_neg h0]
    unfold cellsCov at h1 ⊢
    generalize errI c = e at *
    (refine ret_enter (n := 35) Tryd.func9 rfl rfl rfl ?_)
    (repeat' (first | ((with_reducible refine isOps ?_); first | refine u_move rfl rfl rfl rfl rfl ?_ | refine u_assign rfl rfl rfl rfl rfl ?_ | (refine x_load rfl rfl rfl rfl rfl ?_; refine ⟨_, rfl, ?_⟩) | (refine u_cmp rfl rfl rfl rfl rfl rfl rfl (fun h => ?_) (fun h => ?_) <;> (dsimp only [cmpP] at h; (try (exfalso; omega)))) | refine u_gives rfl rfl rfl rfl rfl rfl (fun _ _ q => h1 _ q.below) ?_ | (refine u_box rfl rfl rfl rfl rfl rfl (fun b => ?_))) | (with_reducible first | refine u_seq ?_ | refine u_region ?_ | refine u_nil ?_ | refine u_then_n ?_ | refine u_ret ?_ | refine u_then_r ?_) | ((with_reducible refine u_cond_t ?_ ?_); (· exact rfl))))
    exact u_done (by (exact ResL.cons (by exact Res1.tmp rfl) (ResL.cons (by exact Res1.tmp rfl) ResL.nil))) (none, 0) trivial rfl (fun _ h => sl_nil h)
end Go.Proofs.YtdigopgncfhiaaaDoor
