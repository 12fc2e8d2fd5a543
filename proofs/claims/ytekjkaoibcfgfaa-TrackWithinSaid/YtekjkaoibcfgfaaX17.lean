/- narrow, by the reference. -/
import Derived.Test.YtekjkaoibcfgfaaX16
namespace Go.Proofs.Ytekjkaoibcfgfaa
open Go.RowKit
set_option maxRecDepth 20000
set_option linter.unusedSimpArgs false
set_option linter.unusedVariables false

section
variable {S : Pend} {P : Program} {w0 : World} {n : Nat} {d : List Deferred} {R R0 : List (Nat × Value)} {H H' H0 : List Ent} {Q : Exit → Act → World → Prop} {ops : Array Oper} {bs : List (List Bool)} {b : List Bool} {k : Nat} {o : Oper} {rest : List Oper} {T : List Rw} {t : Tmp} {x y : Operand} {v : Value} {X : Act → World → Prop}
theorem u_own (hs : ∀ w, Own w0.heap.size w H → Own w0.heap.size w H') (h : U w0 n d R H' X) : U w0 n d R H X := fun a w q => h a w (q.heap q.below (hs w q.own))
theorem u_slS {α : Type} {enc : α → List Value} {kk : Nat} {A : Option Addr} {xs : List α} (ht : Take H (.sl enc kk A xs) H') (h0 : 0 < xs.length) (h : ∀ b o, A = some ⟨b, o, none⟩ → U w0 n d R H X) : U w0 n d R H X := fun a w q => by
  have hs : SlAt enc kk w A xs := q.own.here (.sl enc kk A xs) ht.mem
  obtain ⟨b, o, hA, _⟩ := hs.at_ h0
  exact h b o hA a w q
theorem stores_at {T1 : TypeId} {td : TypeDesc} {s bm off : Nat} {g : Bool} {cs cs' : List Value} {L : List Ent} {F : List Ent} {a : Act} {w : World} (hop : o.op = .store T1 x y) [i1 : TyI P T1 td s g] (hw : want R ops o = some true) (hd : o.dst = none) (hx : evR R x = some (.pointer (some ⟨bm, off, none⟩))) (hy : evR R y = some v)
    (hv : Nat.beq v.cells.toList.length s = true) (hv1 : v.cells.toList.all Value.oneCell' = true) (hl : Nat.ble (off + s) cs.length = true) (hc : put1 cs off v.cells.toList = cs') (q : Kn w0 n d R F a w) (ho : Own w0.heap.size w (.blk bm cs :: L)) {K : Act → World → Prop}
    (hK : ∀ w', Below w0.heap.size w0 w' → Own w0.heap.size w' (.blk bm cs' :: L) → K a w') : if Region.wanted o (yielded ops a.tmps) = true then o.wp P a w K (fun _ _ _ => False) else K (a.put o.dst undef) w := by
  rw [want_ok q hw, if_pos rfl]
  have hb : Blk w bm cs.toArray := ho.here (.blk bm cs) (by simp)
  have hs : v.cells.toList.length = s := Nat.eq_of_beq_eq_true hv
  have hlen := Nat.le_of_ble_eq_true hl
  have e1 := i1.siz w
  obtain ⟨g1, g2, g3, g4, g5, g6⟩ := heap_setCells bm v.cells.toList off w cs hb
  have hfoot : w0.heap.size ≤ bm := (ho.foot (.blk bm cs) (by simp) bm rfl).1
  have hrun : (Instr.storeAt T1 (.pointer (some ⟨bm, off, none⟩)) v).run P w = .ok () (w.setCells bm off v.cells.toList) := by
    have := run_storeCells_cells (P := P) bm off v.cells.toList 0 w (fun j hj => by have h9 : off + j < cs.length := (by omega); rw [hb.cell]; simp [h9]) (fun j hj => hb.frozen _) (fun u hu => List.all_eq_true.1 hv1 u hu)
    simp only [Nat.add_zero] at this
    have hsz : ¬ v.cells.size ≠ s := by simpa using hs
    unfold Instr.storeAt storeVar
    simp only [Sem.run_bind, Instr.sureAddr, Sem.run_pure, Result.andThen_ok, e1, Sem.run_ite, hsz, if_false, this]
  unfold Oper.wp execOp; rw [hop]
  simp only [Sem.run_bind, q.ev hx, q.ev hy, hrun, Result.andThen_ok, Sem.run_pure, Oper.upon_skip, hd]
  refine hK _ ?_ ?_
  · exact q.below.trans ⟨g2, g3, g4, by omega, fun k hk => g6 k (by omega)⟩
  · exact ho.turn (by omega) (fun k hk hn => g6 k hn) q.base (hc ▸ g1) (fun k hk => by
      cases hk
      exact ⟨.inl rfl, by rw [g5]; exact (ho.foot (.blk bm cs) (by simp) bm rfl).2⟩)
/-- the store in the midst, into an array -/
theorem c_storeA {α : Type} {enc : α → List Value} {kk g i j s : Nat} {T1 : TypeId} {td : TypeDesc} {gg : Bool} {xs : List α} {z : α} (z' : α) (hop : o.op = .store T1 x y) [i1 : TyI P T1 td s gg] (hw : ∀ G, want (Rk R0 ops b o T G) ops o = some true) (hd : o.dst = none) (hk : S.k = k) (h0 : S.e0 = [.arr enc kk g xs]) (h1 : S.e1 = [.arr enc kk g (xs.set i z')]) (hx : ∀ G, evR (Rk R0 ops b o T G) x = some (.pointer (some ⟨g, 0 + i * kk + j, none⟩))) (hy : ∀ G, evR (Rk R0 ops b o T G) y = some v) [ei : EncI enc kk] [i3 : GetI xs i z]
    (hc : put1 (enc z) j v.cells.toList = enc z') (hv : Nat.beq v.cells.toList.length s = true) (hv1 : v.cells.toList.all Value.oneCell' = true) (hj : j + s ≤ kk) (h : Chain S P w0 n d ops R0 H0 Q bs (k + 1) rest (⟨k, none, fun _ => (undef, [])⟩ :: T)) : Chain S P w0 n d ops R0 H0 Q (b :: bs) k (o :: rest) T :=
  .inl ⟨fun _ => (undef, []), fun _ _ _ => rfl, .inr ⟨hk, hd, rfl, fun G F L a w q ho K hK => by
    rw [h0] at ho
    rw [h1] at hK
    obtain ⟨tl, hB⟩ := (ho.here (.arr enc kk g xs) (by simp) : ∃ tail : List Value, Blk w g (xs.flatMap enc ++ tail).toArray)
    have hs : v.cells.toList.length = s := Nat.eq_of_beq_eq_true hv
    have ho2 : Own w0.heap.size w (.blk g (xs.flatMap enc ++ tl) :: L) := ho.recast (fun _ => hB) (fun b hb => hb)
    have hlen : i * kk + kk ≤ (xs.flatMap enc).length := by
      have : (xs.flatMap enc).length = xs.length * kk := by simp [List.length_flatMap, ei.len, List.map_const', List.sum_replicate_nat]
      have hi := (List.getElem?_eq_some_iff.1 i3.get).1
      rw [this, ← Nat.succ_mul]
      exact Nat.mul_le_mul_right kk hi
    exact stores_at hop (hw G) hd (hx G) (hy G) hv hv1 (Nat.ble_eq_true_of_le (by rw [List.length_append]; omega)) (cs' := (xs.set i z').flatMap enc ++ tl) (by
      rw [show 0 + i * kk + j = i * kk + j by omega]
      exact flat_put ei.len _ tl j z' xs i z i3.get hc (by rw [hs]; exact hj)) q ho2 (fun w' hB' hO => hK w' hB' (hO.recast (fun hp => ⟨tl, hp⟩) (fun b hb => hb)))⟩, by rw [hd]; exact h⟩
end

theorem twin_own (t : List St) (A : Option Addr) (cap : Nat) (w : World) (ht : SlAt encSt 9 w A t) (hl : t.length ≤ 1000) :
    Ret Try.prog 17 [.agg #[.slice A t.length cap]] w (fun p : Option Addr × Nat => .agg #[.slice p.1 t.length p.2]) (fun p => [.row encSt 9 82 (.slice p.1 t.length p.2) t]) (fun _ => True) := by
  (refine ret_enter (n := 8) Try.func17 rfl rfl rfl ?_)
  (repeat' (first | ((with_reducible refine isOps ?_); first | (refine x_load rfl rfl rfl rfl rfl ?_; refine ⟨_, rfl, ?_⟩) | refine u_field rfl rfl rfl rfl rfl ?_ | (refine u_buildNil encSt rfl rfl rfl rfl (fun b => ?_)) | (refine u_append (enc := encSt) t rfl rfl rfl rfl rfl (by (repeat (first | exact Take.here _ _ | apply Take.there))) rfl rfl (src_in ht) (by refine ⟨?_, by decide⟩; (try simp only [List.length_append, List.length_cons, List.length_nil]); omega) (fun A' c' => ?_)) | (refine x_store rfl rfl rfl rfl rfl ?_; refine And.intro rfl (And.intro (by first | decide | exact Nat.le_of_ble_eq_true rfl | (simp; omega)) ⟨_, rfl, ?_⟩)) | (refine u_alloc rfl rfl rfl rfl (fun b => ?_)) | (refine u_box rfl rfl rfl rfl rfl rfl (fun b => ?_)) | (refine x_build rfl rfl rfl rfl rfl ?_; refine ⟨_, rfl, ?_⟩)) | (with_reducible first | refine u_seq ?_ | refine u_region ?_ | refine u_nil ?_ | refine u_then_n ?_ | refine u_ret ?_)))
  exact u_done (by (exact ResL.cons (by exact res1c rfl (by exact rfl)) ResL.nil)) (A', c') trivial rfl (fun _ h => h.sub (by (repeat (first | exact Out.nil _ | (refine Out.cons (by (repeat (first | exact Take.here _ _ | apply Take.there))) ?_)))))

def setBoth (D E : Mat) (j : Nat) (s : St) : St := { s with long := newSp D j, fall := newSp E j }
noncomputable def rnB (t : List St) (ms : List Me) : Bool := hullB 1 (longs t) ms && hullB 2 (falls t) ms
noncomputable def hullE (kind : Int) (s : List Sp) (ms : List Me) : Mat := fwTo (hullD kind s ms) (s.length + 1)
noncomputable def rnL (t : List St) (ms : List Me) : List St := updTo (setBoth (hullE 1 (longs t) ms) (hullE 2 (falls t) ms)) t t.length
noncomputable def rnT (t : List St) (ms : List Me) : List St := if rnB t ms then rnL t ms else []
theorem longs_len {t : List St} : (longs t).length = t.length := by simp [longs]
theorem falls_len {t : List St} : (falls t).length = t.length := by simp [falls]
theorem longs_take {t : List St} {i : Nat} {z : St} (h : t[i]? = some z) : longs (t.take (i + 1)) = longs (t.take i) ++ [z.long] := by
  obtain ⟨h1, h2⟩ := List.getElem?_eq_some_iff.1 h
  rw [← List.take_append_getElem h1, h2]; simp [longs]
theorem falls_take {t : List St} {i : Nat} {z : St} (h : t[i]? = some z) : falls (t.take (i + 1)) = falls (t.take i) ++ [z.fall] := by
  obtain ⟨h1, h2⟩ := List.getElem?_eq_some_iff.1 h
  rw [← List.take_append_getElem h1, h2]; simp [falls]
theorem okSps_of {t : List St} {f : St → Sp} (h : ∀ s ∈ t, 0 ≤ (f s).lo ∧ (f s).lo ≤ (f s).hi ∧ (f s).hi ≤ 30000) : okSps (t.map f) := fun i => by
  unfold spAt
  rw [List.getD_eq_getElem?_getD, List.getElem?_map]
  cases hi : t[i]? with
  | none => simp
  | some z => simpa using h z (List.mem_of_getElem? hi)
theorem okSps_longs {t : List St} (h : ∀ s ∈ t, Okay s) : okSps (longs t) := okSps_of fun s hs => by have := (h s hs).l0; have := (h s hs).l1; have := (h s hs).l2; omega
theorem okSps_falls {t : List St} (h : ∀ s ∈ t, Okay s) : okSps (falls t) := okSps_of fun s hs => by have := (h s hs).f0; have := (h s hs).f1; have := (h s hs).f2; omega
theorem hullL_get {kind : Int} {s : List Sp} {ms : List Me} {i : Nat} (hB : hullB kind s ms = true) (hi : i < s.length) : (hullL kind s ms)[i]? = some (newSp (hullE kind s ms) i) := by
  unfold hullL hullTo hullE
  rw [if_pos hB, List.getElem?_map, List.getElem?_range hi]; rfl
theorem hullL_len {kind : Int} {s : List Sp} {ms : List Me} (hB : hullB kind s ms = true) : (hullL kind s ms).length = s.length := by
  unfold hullL; rw [if_pos hB, hullTo_len]

set_option maxHeartbeats 4000000 in
theorem rnarrow_any (t : List St) (A : Option Addr) (cap : Nat) (ms : List Me) (B : Option Addr) (cb : Nat) (w : World) (ht : SlAt encSt 9 w A t) (hv : valid t = true) (hm : SlAt encMe 5 w B ms) (hl : ms.length ≤ 1000) (hme : ∀ m ∈ ms, meOk t.length m = true) :
    NewSl encSt 9 (rnT t ms) (fun v => .tuple #[.agg #[v], .bool (rnB t ms)]) Try.prog 76 [.agg #[.slice A t.length cap], .slice B ms.length cb] w := by
  unfold NewSl
  have ho := valid_okay hv
  have hlen := valid_len hv
  have hs1 := okSps_longs ho
  have hs2 := okSps_falls ho
  have l1 := longs_len (t := t)
  have l2 := falls_len (t := t)
  obtain ⟨ba, oa, rfl, _⟩ := ht.at_ (show 0 < t.length by omega)
  have : InS w ba oa encSt 9 t := ⟨ht⟩
  have H1 := fun W A1 c1 (hW : Below w.heap.size w W) (h1 : SlAt encSp 2 W A1 (longs t)) => hull_any 1 (longs t) A1 c1 ms B cb W h1 (hm.below hW) (by omega) (by omega) hl hs1 (by rw [l1]; exact hme) (by omega)
  have H2 := fun W A1 c1 (hW : Below w.heap.size w W) (h1 : SlAt encSp 2 W A1 (falls t)) => hull_any 2 (falls t) A1 c1 ms B cb W h1 (hm.below hW) (by omega) (by omega) hl hs2 (by rw [l2]; exact hme) (by omega)
  (refine ret_enter (n := 86) Try.func76 rfl rfl rfl ?_)
  (repeat' (first | ((with_reducible refine isOps ?_); first | refine u_assign rfl rfl rfl rfl rfl ?_ | (refine u_alloc rfl rfl rfl rfl (fun b => ?_)) | (refine u_box rfl rfl rfl rfl rfl rfl (fun b => ?_))) | (with_reducible first | refine u_seq ?_ | refine u_region ?_ | refine u_nil ?_ | refine u_then_n ?_ | refine u_block ?_)))
  refine u_row_nil encSp 2 34 ?_
  refine u_row_nil encSp 2 34 ?_
  rename_i b2
  obtain ⟨b4, hb4⟩ : ∃ x, x = b := ⟨b, rfl⟩
  subst hb4
  refine u_loop (ι := Nat × Value × Value) (fun j => j.1 ≤ t.length) (fun j => [(1, .slice B ms.length cb), (2, .pointer (some ⟨b2, 0, none⟩)), (4, .pointer (some ⟨b4, 0, none⟩)), (6, j.2.1), (7, j.2.2), (8, .int .i64 (j.1 : Int))]) (fun j => [.row encSp 2 34 j.2.1 (longs (t.take j.1)), .row encSp 2 34 j.2.2 (falls (t.take j.1)), .blk b4 [.slice none 0 0], .blk b2 [.slice (some ⟨ba, oa, none⟩) t.length cap]]) (fun j => t.length - j.1) (0, .slice none 0 0, .slice none 0 0) (Nat.zero_le _) (by (first | exact fun _ _ h => lk_nil h | (repeat (first | exact (fun _ _ h => lk_nil h) | (refine lk_sub rfl ?_))))) (by (repeat (first | exact Out.nil _ | (refine Out.cons (by (repeat (first | exact Take.here _ _ | apply Take.there))) ?_)))) ?_
  rintro ⟨i, v1, v2⟩ hi
  simp only at hi ⊢
  by_cases hlt : i < t.length
  · have hz : t[i]? = some t[i] := by simp [hlt]
    have : GetI t i t[i] := ⟨hz⟩
    have e1 := longs_take hz
    have e2 := falls_take hz
    have n1 : (longs (t.take i)).length ≤ 12 := by simp [longs]; omega
    have n2 : (falls (t.take i)).length ≤ 12 := by simp [falls]; omega
    generalize t[i] = z at *
    (repeat' (first | ((with_reducible refine isOps ?_); first | refine u_move rfl rfl rfl rfl rfl ?_ | refine u_assign rfl rfl rfl rfl rfl ?_ | (refine x_load rfl rfl rfl rfl rfl ?_; refine ⟨_, rfl, ?_⟩) | refine u_field rfl rfl rfl rfl rfl ?_ | (refine u_cmp rfl rfl rfl rfl rfl rfl rfl (fun h => ?_) (fun h => ?_) <;> (dsimp only [cmpP] at h; (try (exfalso; omega)))) | (refine u_append (enc := encSp) [_] rfl rfl rfl rfl rfl (by (repeat (first | exact Take.here _ _ | apply Take.there))) rfl rfl (src_one (by exact rfl)) (by refine ⟨?_, by decide⟩; (try simp only [List.length_append, List.length_cons, List.length_nil]); omega) (fun A' c' => ?_)) | refine u_add1 rfl rfl rfl rfl rfl rfl (by omega) ?_ | refine u_index rfl rfl rfl rfl rfl rfl rfl (by omega) ?_ | refine u_len rfl rfl rfl rfl rfl ?_ | (refine x_buildSlice rfl rfl rfl rfl rfl ?_; refine ⟨rfl, _, rfl, fun b => ?_⟩)) | (with_reducible first | refine u_seq ?_ | refine u_region ?_ | refine u_nil ?_ | refine u_then_n ?_ | refine u_skip ?_ | refine u_block ?_ | refine u_in_n ?_) | ((with_reducible refine u_cond_t ?_ ?_); (· exact rfl))))
    rename_i A1 c1
    refine u_again (i + 1, .slice A1 (longs (t.take i) ++ [z.long]).length c1, .slice A' (falls (t.take i) ++ [z.fall]).length c') (by simp only; omega) (by simp only; omega) (by (first | exact fun _ _ h => lk_nil h | (repeat (first | exact (fun _ _ h => lk_nil h) | (refine lk_sub rfl ?_))))) ?_
    rw [e1, e2]
    (repeat (first | exact Out.nil _ | (refine Out.cons (by (repeat (first | exact Take.here _ _ | apply Take.there))) ?_)))
  · obtain rfl : i = t.length := by omega
    rw [List.take_length]
    refine u_row_form (enc := encSp) (xs := longs t) (by (repeat (first | exact Take.here _ _ | apply Take.there))) ?_
    rintro A1 c1 rfl
    refine u_row_form (enc := encSp) (xs := falls t) (by (repeat (first | exact Take.here _ _ | apply Take.there))) ?_
    rintro A2 c2 rfl
    refine u_own (fun _ h => h.row_sl (by (repeat (first | exact Take.here _ _ | apply Take.there)))) ?_
    refine u_own (fun _ h => h.row_sl (by (repeat (first | exact Take.here _ _ | apply Take.there)))) ?_
    cases hb1 : hullB 1 (longs t) ms
    · have eB : rnB t ms = false := by simp [rnB, hb1]
      have eT : rnT t ms = [] := by simp [rnT, eB]
      rw [eB, eT]
      simp only [hb1] at H1
      (repeat' (first | ((with_reducible refine isOps ?_); first | refine u_move rfl rfl rfl rfl rfl ?_ | refine u_assign rfl rfl rfl rfl rfl ?_ | (refine x_load rfl rfl rfl rfl rfl ?_; refine ⟨_, rfl, ?_⟩) | refine u_field rfl rfl rfl rfl rfl ?_ | refine u_pick rfl rfl rfl rfl rfl rfl ?_ | refine u_not_wanted rfl rfl rfl ?_ | (refine u_cmp rfl rfl rfl rfl rfl rfl rfl (fun h => ?_) (fun h => ?_) <;> (dsimp only [cmpP] at h; (try (exfalso; omega)))) | refine u_newsl rfl rfl rfl rfl rfl rfl (fun _ _ q => H1 _ _ _ q.below (sl_at q.own (Below.refl _ _))) (fun A' c' => ?_) | refine u_newsl rfl rfl rfl rfl rfl rfl (fun _ _ q => H2 _ _ _ q.below (sl_at q.own (Below.refl _ _))) (fun A' c' => ?_) | refine u_extract rfl rfl rfl rfl rfl rfl ?_ | refine u_not rfl rfl rfl rfl rfl ?_ | refine u_len rfl rfl rfl rfl rfl ?_ | (refine x_store rfl rfl rfl rfl rfl ?_; refine And.intro rfl (And.intro (by first | decide | exact Nat.le_of_ble_eq_true rfl | (simp; omega)) ⟨_, rfl, ?_⟩)) | (refine x_build rfl rfl rfl rfl rfl ?_; refine ⟨_, rfl, ?_⟩)) | (with_reducible first | refine u_seq ?_ | refine u_region ?_ | refine u_nil ?_ | refine u_then_n ?_ | refine u_ret ?_ | refine u_then_r ?_ | refine u_exit ?_ | refine u_in_same ?_ | refine u_then_e ?_) | ((with_reducible refine u_cond_t ?_ ?_); (· exact rfl)) | ((with_reducible refine u_cond_f ?_ ?_); (· exact rfl))))
      exact u_done (by (exact ResL.cons (by exact res1c rfl (by exact rfl)) (ResL.cons (by exact Res1.tmp rfl) ResL.nil))) (none, 0) trivial rfl (fun _ h => sl_nil h)
    simp only [hb1] at H1
    cases hb2 : hullB 2 (falls t) ms
    · have eB : rnB t ms = false := by simp [rnB, hb2]
      have eT : rnT t ms = [] := by simp [rnT, eB]
      rw [eB, eT]
      simp only [hb2] at H2
      (repeat' (first | ((with_reducible refine isOps ?_); first | refine u_move rfl rfl rfl rfl rfl ?_ | refine u_assign rfl rfl rfl rfl rfl ?_ | (refine x_load rfl rfl rfl rfl rfl ?_; refine ⟨_, rfl, ?_⟩) | refine u_field rfl rfl rfl rfl rfl ?_ | refine u_pick rfl rfl rfl rfl rfl rfl ?_ | (refine u_cmp rfl rfl rfl rfl rfl rfl rfl (fun h => ?_) (fun h => ?_) <;> (dsimp only [cmpP] at h; (try (exfalso; omega)))) | refine u_newsl rfl rfl rfl rfl rfl rfl (fun _ _ q => H1 _ _ _ q.below (sl_at q.own (Below.refl _ _))) (fun A' c' => ?_) | refine u_newsl rfl rfl rfl rfl rfl rfl (fun _ _ q => H2 _ _ _ q.below (sl_at q.own (Below.refl _ _))) (fun A' c' => ?_) | refine u_extract rfl rfl rfl rfl rfl rfl ?_ | refine u_not rfl rfl rfl rfl rfl ?_ | refine u_len rfl rfl rfl rfl rfl ?_ | (refine x_store rfl rfl rfl rfl rfl ?_; refine And.intro rfl (And.intro (by first | decide | exact Nat.le_of_ble_eq_true rfl | (simp; omega)) ⟨_, rfl, ?_⟩)) | (refine x_build rfl rfl rfl rfl rfl ?_; refine ⟨_, rfl, ?_⟩)) | (with_reducible first | refine u_seq ?_ | refine u_region ?_ | refine u_nil ?_ | refine u_then_n ?_ | refine u_ret ?_ | refine u_then_r ?_ | refine u_exit ?_ | refine u_in_same ?_ | refine u_then_e ?_) | ((with_reducible refine u_cond_t ?_ ?_); (· exact rfl)) | ((with_reducible refine u_cond_f ?_ ?_); (· exact rfl))))
      exact u_done (by (exact ResL.cons (by exact res1c rfl (by exact rfl)) (ResL.cons (by exact Res1.tmp rfl) ResL.nil))) (none, 0) trivial rfl (fun _ h => sl_nil h)
    simp only [hb2] at H2
    have eB : rnB t ms = true := by simp [rnB, hb1, hb2]
    have eT : rnT t ms = rnL t ms := by simp [rnT, eB]
    have eL : (rnL t ms).length = t.length := by unfold rnL; rw [updTo_len]
    have g1 := fun i (h : i < t.length) => hullL_get (kind := 1) (s := longs t) (ms := ms) hb1 (by rw [l1]; exact h)
    have g2 := fun i (h : i < t.length) => hullL_get (kind := 2) (s := falls t) (ms := ms) hb2 (by rw [l2]; exact h)
    have m1 := hullL_len (kind := 1) (s := longs t) (ms := ms) hb1
    have m2 := hullL_len (kind := 2) (s := falls t) (ms := ms) hb2
    rw [eB, eT]
    unfold rnL at eL ⊢
    generalize hullE 1 (longs t) ms = D at *
    generalize hullE 2 (falls t) ms = E at *
    generalize hullL 1 (longs t) ms = s1 at *
    generalize hullL 2 (falls t) ms = s2 at *
    rw [l1] at m1
    rw [l2] at m2
    (repeat' (first | ((with_reducible refine isOps ?_); first | refine u_move rfl rfl rfl rfl rfl ?_ | refine u_assign rfl rfl rfl rfl rfl ?_ | (refine x_load rfl rfl rfl rfl rfl ?_; refine ⟨_, rfl, ?_⟩) | refine u_field rfl rfl rfl rfl rfl ?_ | refine u_pick rfl rfl rfl rfl rfl rfl ?_ | (refine u_cmp rfl rfl rfl rfl rfl rfl rfl (fun h => ?_) (fun h => ?_) <;> (dsimp only [cmpP] at h; (try (exfalso; omega)))) | refine u_newsl rfl rfl rfl rfl rfl rfl (fun _ _ q => H1 _ _ _ q.below (sl_at q.own (Below.refl _ _))) (fun A' c' => ?_) | refine u_newsl rfl rfl rfl rfl rfl rfl (fun _ _ q => H2 _ _ _ q.below (sl_at q.own (Below.refl _ _))) (fun A' c' => ?_) | (refine u_call rfl rfl rfl rfl rfl rfl (fun _ _ q => twin_own t _ cap _ (ht.below q.below) (by omega)) ?_; rintro ⟨A3, c3⟩ -; dsimp only [List.cons_append, List.nil_append]; refine u_row_arr (Take.here _ _) (by omega) ?_; rintro g rfl) | refine u_extract rfl rfl rfl rfl rfl rfl ?_ | refine u_not rfl rfl rfl rfl rfl ?_ | refine u_len rfl rfl rfl rfl rfl ?_ | (refine x_store rfl rfl rfl rfl rfl ?_; refine And.intro rfl (And.intro (by first | decide | exact Nat.le_of_ble_eq_true rfl | (simp; omega)) ⟨_, rfl, ?_⟩)) | (refine u_alloc rfl rfl rfl rfl (fun b => ?_))) | (with_reducible first | refine u_seq ?_ | refine u_region ?_ | refine u_nil ?_ | refine u_then_n ?_ | refine u_skip ?_ | refine u_block ?_ | refine u_exit ?_ | refine u_in_same ?_ | refine u_then_e ?_) | ((with_reducible refine u_cond_f ?_ ?_); (· exact rfl))))
    rename_i A5 c5
    obtain ⟨b13, hb13⟩ : ∃ x, x = b := ⟨b, rfl⟩
    subst hb13
    refine u_slS (xs := s1) (by (repeat (first | exact Take.here _ _ | apply Take.there))) (by omega) ?_
    rintro ba1 oa1 rfl
    refine u_slS (xs := s2) (by (repeat (first | exact Take.here _ _ | apply Take.there))) (by omega) ?_
    rintro ba2 oa2 rfl
    refine u_loop (ι := Nat) (fun i => i ≤ t.length) (fun i => [(4, .pointer (some ⟨b4, 0, none⟩)), (9, .slice (some ⟨ba1, oa1, none⟩) s1.length c5), (11, .slice (some ⟨ba2, oa2, none⟩) s2.length c'), (13, .pointer (some ⟨b13, 0, none⟩)), (14, .int .i64 (i : Int))]) (fun i => [.blk b13 [.slice (some ⟨g, 0, none⟩) t.length c3], .arr encSt 9 g (updTo (setBoth D E) t i), .sl encSp 2 (some ⟨ba1, oa1, none⟩) s1, .sl encSp 2 (some ⟨ba2, oa2, none⟩) s2, .blk b4 [.slice none 0 0]]) (fun i => t.length - i) 0 (Nat.zero_le _) (by (first | exact fun _ _ h => lk_nil h | (repeat (first | exact (fun _ _ h => lk_nil h) | (refine lk_sub rfl ?_))))) (by (try simp only [updTo_zero]); (repeat (first | exact Out.nil _ | (refine Out.cons (by (repeat (first | exact Take.here _ _ | apply Take.there))) ?_)))) ?_
    intro i hi
    by_cases hlt : i < t.length
    · have hz : t[i]? = some t[i] := by simp [hlt]
      generalize t[i] = z at hz
      have hz2 : (updTo (setBoth D E) t i)[i]? = some z := by rw [updTo_get, hz]; simp
      have : GetI (updTo (setBoth D E) t i) i z := ⟨hz2⟩
      have : GetI s1 i (newSp D i) := ⟨g1 i hlt⟩
      have : GetI s2 i (newSp E i) := ⟨g2 i hlt⟩
      have hz3 : ((updTo (setBoth D E) t i).set i { z with long := newSp D i })[i]? = some { z with long := newSp D i } := by
        rw [List.getElem?_set_self (by rw [updTo_len]; exact hlt)]
      have : GetI ((updTo (setBoth D E) t i).set i { z with long := newSp D i }) i { z with long := newSp D i } := ⟨hz3⟩
      (repeat' (first | ((with_reducible refine isOps ?_); first | refine u_move rfl rfl rfl rfl rfl ?_ | (refine u_cmp rfl rfl rfl rfl rfl rfl rfl (fun h => ?_) (fun h => ?_) <;> (dsimp only [cmpP] at h; (try (exfalso; omega)))) | refine u_len rfl rfl rfl rfl rfl ?_) | (with_reducible first | refine u_seq ?_ | refine u_region ?_ | refine u_nil ?_ | refine u_then_n ?_ | refine u_skip ?_ | refine u_block ?_) | ((with_reducible refine u_cond_t ?_ ?_); (· exact rfl))))
      (refine u_chainS ⟨16, [.arr encSt 9 g (updTo (setBoth D E) t i)], [.arr encSt 9 g ((updTo (setBoth D E) t i).set i { z with long := newSp D i })]⟩ (H0 := _) (fun _ h => (h.take (by (repeat (first | exact Take.here _ _ | apply Take.there))))) (by kernel_rfl) [[], [true], [false, false], [false, false, false], [true, false, false, false], [false, false, false, false, false], [false, false, false, false, false, false], [false, false, false, false, false, false, false], [true, true, false, false, false, false, false, false], [true, true, true, false, false, false, false, false, false], [false, false, false, false, false, false, false, false, false, false], [false, false, false, false, false, false, false, false, false, false, false], [true, true, false, false, false, false, false, false, false, false, false, false], [true, true, true, false, false, false, false, false, false, false, false, false, false], [true, true, true, true, true, true, true, true, false, false, false, true, true, true], [true, true, true, true, true, true, true, true, true, false, false, false, true, true, true], [true, true, true, true, true, true, true, true, true, true, false, false, false, true, true, true], [true, true, true, true, true, true, true, true, true, true, true, true, true, true, true, true, true], [true, true, true, true, true, true, true, true, true, true, true, true, true, true, true, true, true, true], [true, true, true, true, true, true, true, true, true, true, true, true, true, true, true, true, true, true, true]] (by kernel_rfl) (by kernel_rfl) ?_)
      (repeat' (first | (((with_reducible refine c_go ?_ ?_); (· exact rfl); refine ⟨_, fun G => (by (try simp only [fltT, entsT, List.nil_append, List.cons_append]); rfl), ?_⟩); first | refine c_val _ (fun _ => e_move rfl rfl) (fun _ => rfl) rfl (by first | exact fun _ _ _ => rfl | (intro G G' h; simp (decide := true) only [h])) ?_ | refine c_val _ (fun _ => e_load' rfl rfl (by exact rfl)) (fun _ => rfl) rfl (by first | exact fun _ _ _ => rfl | (intro G G' h; simp (decide := true) only [h])) ?_ | (refine c_isField rfl ?_; refine c_val _ (fun _ => e_field rfl rfl) (fun _ => rfl) rfl (by first | exact fun _ _ _ => rfl | (intro G G' h; simp (decide := true) only [h])) ?_) | refine c_val _ (fun _ => e_index rfl rfl rfl rfl (by omega)) (fun _ => rfl) rfl (by first | exact fun _ _ _ => rfl | (intro G G' h; simp (decide := true) only [h])) ?_)))
      refine c_storeA (enc := encSt) (i := i) (j := 1) (z := z) { z with long := newSp D i } rfl (fun _ => rfl) rfl rfl rfl rfl (fun _ => rfl) (fun _ => rfl) rfl rfl rfl (by decide) ?_
      (repeat' (first | (((with_reducible refine c_go ?_ ?_); (· exact rfl); refine ⟨_, fun G => (by (try simp only [fltT, entsT, List.nil_append, List.cons_append]); rfl), ?_⟩); first | (refine c_isField rfl ?_; refine c_val _ (fun _ => e_field rfl rfl) (fun _ => rfl) rfl (by first | exact fun _ _ _ => rfl | (intro G G' h; simp (decide := true) only [h])) ?_) | refine c_val _ (fun _ => e_index rfl rfl rfl rfl (by omega)) (fun _ => rfl) rfl (by first | exact fun _ _ _ => rfl | (intro G G' h; simp (decide := true) only [h])) ?_) | ((with_reducible refine c_tail ?_ ?_); (· exact rfl))))
      (intro G; simp only [regsT, entsT, Pend.at_none, List.nil_append, List.cons_append])
      simp (decide := true) only [Pend.at_lt, List.nil_append, List.cons_append]
      (repeat' (first | ((with_reducible refine isOps ?_); first | refine u_move rfl rfl rfl rfl rfl ?_ | refine u_assign rfl rfl rfl rfl rfl ?_ | refine u_storeA (enc := encSt) (z := { z with long := newSp D i }) { z with long := newSp D i, fall := newSp E i } rfl rfl rfl rfl rfl rfl rfl rfl (by decide) ?_ | refine u_add1 rfl rfl rfl rfl rfl rfl (by omega) ?_) | (with_reducible first | refine u_region ?_ | refine u_nil ?_ | refine u_then_n ?_ | refine u_in_n ?_)))
      have eS : (updTo (setBoth D E) t i).set i { z with long := newSp D i, fall := newSp E i } = updTo (setBoth D E) t (i + 1) := updTo_set hz rfl
      rw [List.set_set, eS]
      exact u_again (i + 1) (by omega) (by omega) (by (first | exact fun _ _ h => lk_nil h | (repeat (first | exact (fun _ _ h => lk_nil h) | (refine lk_sub rfl ?_))))) (by (repeat (first | exact Out.nil _ | (refine Out.cons (by (repeat (first | exact Take.here _ _ | apply Take.there))) ?_))))
    · obtain rfl : i = t.length := by omega
      (repeat' (first | ((with_reducible refine isOps ?_); first | refine u_move rfl rfl rfl rfl rfl ?_ | refine u_assign rfl rfl rfl rfl rfl ?_ | (refine x_load rfl rfl rfl rfl rfl ?_; refine ⟨_, rfl, ?_⟩) | (refine u_cmp rfl rfl rfl rfl rfl rfl rfl (fun h => ?_) (fun h => ?_) <;> (dsimp only [cmpP] at h; (try (exfalso; omega)))) | refine u_len rfl rfl rfl rfl rfl ?_ | (refine x_store rfl rfl rfl rfl rfl ?_; refine And.intro rfl (And.intro (by first | decide | exact Nat.le_of_ble_eq_true rfl | (simp; omega)) ⟨_, rfl, ?_⟩))) | (with_reducible first | refine u_seq ?_ | refine u_region ?_ | refine u_nil ?_ | refine u_then_n ?_ | refine u_ret ?_ | refine u_exit ?_ | refine u_in_same ?_ | refine u_then_e ?_) | ((with_reducible refine u_cond_f ?_ ?_); (· exact rfl))))
      simp only [eL]
      exact u_done (by (exact ResL.cons (by exact res1c rfl (by exact rfl)) (ResL.cons (by exact Res1.tmp rfl) ResL.nil))) (some ⟨g, 0, none⟩, c3) trivial rfl (fun _ h => (h.arr_sl (by (repeat (first | exact Take.here _ _ | apply Take.there)))).sub (by (repeat (first | exact Out.nil _ | (refine Out.cons (by (repeat (first | exact Take.here _ _ | apply Take.there))) ?_)))))
end Go.Proofs.Ytekjkaoibcfgfaa
