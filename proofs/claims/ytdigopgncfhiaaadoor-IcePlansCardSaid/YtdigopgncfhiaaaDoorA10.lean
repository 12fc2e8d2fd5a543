/- Operations that take over what others made: append, store (namespace Two). -/
import Derived.Test.YtdigopgncfhiaaaDoorA9
import Derived.Test.YtdigopgncfhiaaaDoorA5
import Derived.Test.YtdigopgncfhiaaaDoorA7
import Derived.Test.YtdigopgncfhiaaaDoorA8
import Derived.Shelf.SlSortCmp.NoneTotal
import Derived.Shelf.SlicesG.Cmp
import Derived.Test.YtdigopgncfhiaaaDoorA6
import Derived.Scope
namespace Go.Proofs.YtdigopgncfhiaaaDoor.Two
variable {ro : Option Nat}
open Go.RowKit
set_option maxRecDepth 20000
set_option linter.unusedSimpArgs false
set_option linter.unusedVariables false
section
variable {S : List (Nat × Nat)} {I : List (Nat × Nat × Nat × List Ent)} {P : Program} {w0 : World} {n : Nat} {d : List Deferred} {R R0 : List (Nat × Value)} {H H' H0 : List Ent} {Q : Exit → Act → World → Prop} {ops : Array Oper} {bs : List (List Bool)} {b : List Bool} {k : Nat} {o : Oper} {rest : List Oper} {T : List Rw} {t : Tmp} {Hk : Wits → List Ent} {x y : Operand} {v : Value}
theorem row_at {α : Type} {enc : α → List Value} {kk e base m c : Nat} {A : Option Addr} {xs : List α} {H H' : List Ent} {w : World} (ho : Own base w H) (ht : Take H (.row enc kk e (.slice A m c) xs) H') [ei : EncI enc kk] : SlAt enc kk w A xs := (ho.row_sl ht).here (.sl enc kk A xs) (by simp)
theorem c_take {f : Wits → Value × List Ent} (j : Nat) (hjk : (j, k) ∈ S) (hkI : keyI I k = false) (hl : Loc b k f) (ht : Takes S I P w0 n d ops R0 H0 b k o T f (entsT (only j T))) (h : Chain ro S I P w0 n d ops R0 H0 Q bs (k + 1) rest (⟨k, o.dst, f⟩ :: T)) : Chain ro S I P w0 n d ops R0 H0 Q (b :: bs) k (o :: rest) T :=
  .inl ⟨f, hl, .inr (.inl ⟨hkI, j, hjk, ht⟩), h⟩
theorem c_takeI {f : Wits → Value × List Ent} {E0 : List Ent} {lo hi : Nat} (hkE : (k, lo, hi, E0) ∈ I) (hfree : takes S k = false) (hl : Loc b k f) (ht : Takes S I P w0 n d ops R0 H0 b k o T f (fun _ => E0)) (h : Chain ro S I P w0 n d ops R0 H0 Q bs (k + 1) rest (⟨k, o.dst, f⟩ :: T)) : Chain ro S I P w0 n d ops R0 H0 Q (b :: bs) k (o :: rest) T :=
  .inl ⟨f, hl, .inr (.inr ⟨hfree, lo, hi, E0, hkE, ht⟩), h⟩
/-- append, in a chain: the row is taken over -/
theorem takes_append {α : Type} {enc : α → List Value} {kk e T1 bytes m : Nat} [el : ElI P T1 e kk bytes] [ei : EncI enc kk] {xs : List α} (ys : List α) {A : Wits → Option Addr} {c : Wits → Nat} {vx : Wits → Value} (E0 : Wits → List Ent) (hop : o.op = .call { callee := .builtin .append, args := #[x, y], argTypes := #[T1, T1] }) (hw : ∀ G, want (Rk R0 ops b o T G) ops o = some true) (hd : o.dst = some t)
    (hx : ∀ G, evR (Rk R0 ops b o T G) x = some (vx G)) (hrow : ∀ G, E0 G = [.row enc kk e (vx G) xs]) (hy : ∀ G, evR (Rk R0 ops b o T G) y = some (.slice (A G) m (c G))) (hm : m = ys.length) (hH : ∀ G, see I k ++ (entsT (fltT (vis S k b) T) G ++ H0) = Hk G) (hs : ∀ G w, Below w0.heap.size w0 w → Own w0.heap.size w (Hk G) → SlAt enc kk w (A G) ys) (hl : xs.length + ys.length ≤ 1000000 ∧ bytes ≤ 1000000) :
    Takes S I P w0 n d ops R0 H0 b k o T (fun G => (.slice (G k).A (xs ++ ys).length (G k).m, [.row enc kk e (.slice (G k).A (xs ++ ys).length (G k).m) (xs ++ ys)])) E0 := by
  subst hm
  intro G L a w q ho K hK
  rw [want_ok q (hw G), if_pos rfl]
  rw [hrow G] at ho
  obtain ⟨z, hE⟩ := el.el
  obtain ⟨i, i1, i2, i3, i4⟩ := hE.info
  have hrow : Row enc kk e 0 w (vx G) xs := ho.here (.row enc kk e (vx G) xs) (by simp)
  have hsl := hs G w q.below (by rw [← hH G]; exact q.own)
  have hlen : (ys.flatMap enc).length = ys.length * kk := by
    simp [List.length_flatMap, ei.len, List.map_const', List.sum_replicate_nat]
  have hmul : (xs.length + ys.length) * bytes ≤ 140737488355328 := by
    have := Nat.mul_le_mul hl.1 hl.2; omega
  have hxv := q.ev (hx G)
  have hyv := q.ev (hy G)
  generalize vx G = v at *
  generalize A G = A at *
  generalize c G = c at *
  have key : ∃ v' w', (Builtin.append_ #[T1, T1] o.type #[v, .slice A ys.length c]).run P w = .ok v' w' ∧ Row enc kk e 0 w' v' (xs ++ ys) ∧ w.grownBy w' v.ownBlock ∧ (v'.ownBlock = v.ownBlock ∨ v'.ownBlock = some w.heap.size) := by
    cases hA : A with
    | none =>
      have hys : ys = [] := by
        cases ys with
        | nil => rfl
        | cons y r =>
          obtain ⟨b, o, hb, _⟩ := hsl 0 y (by simp)
          rw [hA] at hb; cases hb
      subst hys hA
      refine ⟨v, w, ?_, by simpa using hrow, World.grownBy.refl w _, .inl rfl⟩
      rcases hrow.2 with ⟨rfl, _⟩ | ⟨g, cap, cur, rfl, _, _, hnc, _⟩
      · simp [Builtin.append_, run_underlying hE.under, sizeOf, typeInfo, i1, Builtin.lenOf, Builtin.firstCells]
      · simp [Builtin.append_, run_underlying hE.under, sizeOf, typeInfo, i1, Builtin.lenOf, Builtin.firstCells, hnc, storeCells]
    | some ad =>
      subst hA
      obtain ⟨v', w', r1, r2, r3, _, r5⟩ := run_append_own_at (P := P) w 0 T1 o.type e i z kk bytes hE.under i1 i2 i3 i4 hE.zs hE.pos v xs.length (xs.flatMap enc) hrow ad ys.length c (ys.flatMap enc) hlen
        (fun j u hu => by
          obtain ⟨i, y, l, hi, hl, rfl⟩ := flat_inv ei.len ys j u hu
          obtain ⟨b, o, hb, hlt, hc⟩ := hsl i y hi
          cases hb
          have e1 : (⟨b, o, none⟩ : Addr).add (i * kk + l) = ⟨b, o + i * kk + l, none⟩ := by rw [addr_add]; congr 1; omega
          rw [e1]; exact hc l u hl)
        (fun u hu => by
          obtain ⟨y, _, hy'⟩ := List.mem_flatMap.1 hu
          exact ei.one y u hy') (by unfold maxLen; omega) hmul (Nat.zero_le _)
      exact ⟨v', w', r1, by unfold Row; simpa using r2, r3, r5⟩
  obtain ⟨v', w', k1, k2, k3, k4⟩ := key
  obtain ⟨A', c', rfl⟩ := k2.form
  unfold Oper.wp execOp
  simp only [hop, resolve, invoke, builtin, Sem.run_bind, Sem.run_pure, Result.andThen_ok, List.map_toArray, List.map_cons, List.map_nil, hxv, hyv, k1, Oper.upon_value]
  have hfoot : ∀ b, v.ownBlock = some b → w0.heap.size ≤ b ∧ b < w.heap.size := fun b hb => ho.foot (.row enc kk e v xs) (by simp) b hb
  refine hK (.slice A' (xs ++ ys).length c') [.row enc kk e (.slice A' (xs ++ ys).length c') (xs ++ ys)] _ ⟨⟨0, A', c'⟩, by simp only [upW, if_true]⟩ ?_ ?_
  · exact q.below.trans ⟨k3.os, k3.tape, k3.output, k3.size, fun b hb => k3.block b (by have := q.base; omega) (fun e => by have := (hfoot b e.symm).1; omega)⟩
  · refine ho.turn k3.size (fun b hb hn => k3.block b hb (fun e => hn e.symm)) q.base k2 (fun b hb => ?_)
    have hb' : (Value.slice A' (xs ++ ys).length c').ownBlock = some b := hb
    have hlt := k2.lt b hb'
    rcases k4 with h4 | h4
    · exact ⟨.inl (h4.symm.trans hb'), hlt.2⟩
    · rw [h4] at hb'; cases hb'; exact ⟨.inr (Nat.le_refl _), hlt.2⟩
/-- append to a row that was there ahead of the chain -/
theorem c_appendI {α : Type} {enc : α → List Value} {kk e T1 bytes m : Nat} [el : ElI P T1 e kk bytes] [ei : EncI enc kk] {xs : List α} (ys : List α) {A : Wits → Option Addr} {c : Wits → Nat} {vx : Value} {lo hi : Nat} (hkE : (k, lo, hi, [Ent.row enc kk e vx xs]) ∈ I) (hfree : takes S k = false) (hop : o.op = .call { callee := .builtin .append, args := #[x, y], argTypes := #[T1, T1] }) (hw : ∀ G, want (Rk R0 ops b o T G) ops o = some true) (hd : o.dst = some t)
    (hx : ∀ G, evR (Rk R0 ops b o T G) x = some vx) (hy : ∀ G, evR (Rk R0 ops b o T G) y = some (.slice (A G) m (c G))) (hm : m = ys.length) (hH : ∀ G, see I k ++ (entsT (fltT (vis S k b) T) G ++ H0) = Hk G) (hs : ∀ G w, Below w0.heap.size w0 w → Own w0.heap.size w (Hk G) → SlAt enc kk w (A G) ys) (hl : xs.length + ys.length ≤ 1000000 ∧ bytes ≤ 1000000)
    (h : Chain ro S I P w0 n d ops R0 H0 Q bs (k + 1) rest (⟨k, some t, fun G => (.slice (G k).A (xs ++ ys).length (G k).m, [.row enc kk e (.slice (G k).A (xs ++ ys).length (G k).m) (xs ++ ys)])⟩ :: T)) : Chain ro S I P w0 n d ops R0 H0 Q (b :: bs) k (o :: rest) T :=
  c_takeI (f := fun G => (.slice (G k).A (xs ++ ys).length (G k).m, [.row enc kk e (.slice (G k).A (xs ++ ys).length (G k).m) (xs ++ ys)])) hkE hfree (fun G G' hG => by simp only [hG k (.inl rfl)]) (takes_append (vx := fun _ => vx) ys (fun _ => [Ent.row enc kk e vx xs]) hop hw hd hx (fun _ => rfl) hy hm hH hs hl) (by rw [hd]; exact h)
/-- a store into what an operation ahead of it allocated -/
theorem c_storeT {T1 : TypeId} {td : TypeDesc} {s off : Nat} {g : Bool} {gx : Wits → Nat} {vy : Wits → Value} {cs : Wits → List Value} {cs' : Wits → List Value} (j : Nat) (hjk : (j, k) ∈ S) (hkI : keyI I k = false) (hop : o.op = .store T1 x y) [i1 : TyI P T1 td s g] (hw : ∀ G, want (Rk R0 ops b o T G) ops o = some true) (hd : o.dst = none) (hx : ∀ G, evR (Rk R0 ops b o T G) x = some (.pointer (some ⟨gx G, off, none⟩))) (hy : ∀ G, evR (Rk R0 ops b o T G) y = some (vy G)) (hent : ∀ G, entsT (only j T) G = [.blk (gx G) (cs G)])
    (hv : ∀ G, Nat.beq (vy G).cells.toList.length s = true) (hv1 : ∀ G, (vy G).cells.toList.all Value.oneCell' = true) (hl : ∀ G, Nat.ble (off + s) (cs G).length = true) (hc : ∀ G, put1 (cs G) off (vy G).cells.toList = cs' G) (hg : LocB b k gx) (hcs : LocB b k cs')
    (h : Chain ro S I P w0 n d ops R0 H0 Q bs (k + 1) rest (⟨k, none, fun G => (undef, [.blk (gx G) (cs' G)])⟩ :: T)) : Chain ro S I P w0 n d ops R0 H0 Q (b :: bs) k (o :: rest) T := by
  refine c_take (f := fun G => (undef, [.blk (gx G) (cs' G)])) j hjk hkI (fun G G' hG => by simp only [hg.loc G G' hG, hcs.loc G G' hG]) (fun G L a w q ho K hK => ?_) (by rw [hd]; exact h)
  rw [hent G] at ho
  refine stores_at hop (hw G) hd (hx G) (hy G) (hv G) (hv1 G) (hl G) (hc G) q ho (fun w' hB hO => ?_)
  have := hK undef [.blk (gx G) (cs' G)] w' ⟨⟨0, none, 0⟩, by simp only [hg.up, hcs.up]⟩ hB hO
  rw [hd] at this
  exact this
end
end Go.Proofs.YtdigopgncfhiaaaDoor.Two
/- Ice: open, asked, what is lost. -/
namespace Go.Proofs.YtdigopgncfhiaaaDoor
open Go.RowKit
set_option linter.unusedSimpArgs false
set_option linter.unusedVariables false
set_option maxRecDepth 20000
theorem iopen_no (c : Cov) (A : Option Addr) (ca : Nat) (B : Option Addr) (cb : Nat) (C : Option Addr) (cc : Nat) (w : World) (h : CovAt w c A B C) (hs : Small c) (he : errI c ≠ 0) : Gv Tryd.prog 37 [vCov c A ca B cb C cc] w (.tuple #[.pointer none, .int .i64 (errI c)]) := by
  have hc := fun W (hb : Below w.heap.size w W) => icheck_any c A ca B cb C cc W (h.below hb) hs
  unfold vCov cellsCov at hc
  generalize errI c = e at *
  unfold Gv vCov cellsCov
  (refine ret_enter (n := 13) Tryd.func37 rfl rfl rfl ?_)
  (repeat' (first | ((with_reducible refine isOps ?_); first | refine u_move rfl rfl rfl rfl rfl ?_ | refine u_assign rfl rfl rfl rfl rfl ?_ | (refine x_load rfl rfl rfl rfl rfl ?_; refine ⟨_, rfl, ?_⟩) | (refine u_cmp rfl rfl rfl rfl rfl rfl rfl (fun h => ?_) (fun h => ?_) <;> (dsimp only [cmpP] at h; (try (exfalso; omega)))) | refine u_gives rfl rfl rfl rfl rfl rfl (fun _ _ q => hc _ q.below) ?_ | (refine u_box rfl rfl rfl rfl rfl rfl (fun b => ?_))) | (with_reducible first | refine u_seq ?_ | refine u_region ?_ | refine u_nil ?_ | refine u_then_n ?_ | refine u_ret ?_ | refine u_then_r ?_) | ((with_reducible refine u_cond_t ?_ ?_); (· exact rfl))))
  all_goals exact u_done (by (exact ResL.cons (by exact Res1.tmp rfl) (ResL.cons (by exact Res1.tmp rfl) ResL.nil))) () trivial rfl (fun _ h => h.sub (by (repeat (first | exact Out.nil _ | (refine Out.cons (by (repeat (first | exact Take.here _ _ | apply Take.there))) ?_)))))
theorem iopen_ok (c : Cov) (A : Option Addr) (ca : Nat) (B : Option Addr) (cb : Nat) (C : Option Addr) (cc : Nat) (w : World) (h : CovAt w c A B C) (hs : Small c) (he : errI c = 0) : Ret Tryd.prog 37 [vCov c A ca B cb C cc] w (fun g : Nat => .tuple #[.pointer (some ⟨g, 0, none⟩), .int .i64 0]) (fun g => [.blk g (cellsCov c A ca B cb C cc)]) (fun _ => True) := by
  have hc := fun W (hb : Below w.heap.size w W) => icheck_any c A ca B cb C cc W (h.below hb) hs
  unfold vCov cellsCov at hc
  rw [he] at hc
  unfold vCov cellsCov
  (refine ret_enter (n := 13) Tryd.func37 rfl rfl rfl ?_)
  (repeat' (first | ((with_reducible refine isOps ?_); first | refine u_move rfl rfl rfl rfl rfl ?_ | refine u_assign rfl rfl rfl rfl rfl ?_ | (refine x_load rfl rfl rfl rfl rfl ?_; refine ⟨_, rfl, ?_⟩) | (refine u_cmp rfl rfl rfl rfl rfl rfl rfl (fun h => ?_) (fun h => ?_) <;> (dsimp only [cmpP] at h; (try (exfalso; omega)))) | refine u_gives rfl rfl rfl rfl rfl rfl (fun _ _ q => hc _ q.below) ?_ | (refine u_box rfl rfl rfl rfl rfl rfl (fun b => ?_)) | (refine x_build rfl rfl rfl rfl rfl ?_; refine ⟨_, rfl, ?_⟩)) | (with_reducible first | refine u_seq ?_ | refine u_region ?_ | refine u_nil ?_ | refine u_then_n ?_ | refine u_ret ?_ | refine u_skip ?_) | ((with_reducible refine u_cond_f ?_ ?_); (· exact rfl))))
  all_goals exact u_done (by (exact ResL.cons (by exact Res1.tmp rfl) (ResL.cons (by exact Res1.tmp rfl) ResL.nil))) _ trivial rfl (fun _ h => h.sub (by (repeat (first | exact Out.nil _ | (refine Out.cons (by (repeat (first | exact Take.here _ _ | apply Take.there))) ?_)))))
/-! ### what is lost -/
def lossC (c : Cov) (z : Bed) (u : Hour) : Sp := ⟨z.sun * u.melt.lo + u.runs * c.wear.lo, z.sun * u.melt.hi + u.runs * c.wear.hi⟩
/-- products in use stay small -/
structure Fine (c : Cov) : Prop where
  bed : ∀ z ∈ c.beds, bedOk z = true
  hour : ∀ u ∈ c.hours, hourOk u = true
  wear : knownB c.wear 0 20 = true
  layer : knownB c.layer 1 100 = true
  rate : inB 0 100 c.rate = true
  limit : inB 0 2000 c.limit = true
  base : inB 0 c.limit c.base = true
  beds : c.beds.length = c.t.length
  hours : inB 1 8 c.hours.length = true
theorem fine_of {c : Cov} (h : errI c = 0) : Fine c := by
  unfold errI at h
  by_cases hv : valid c.t = true
  · rw [if_pos hv] at h
    by_cases hi : iceOk c = true
    · obtain ⟨i1, i2, i3, i4, i5, i6, i7, i8, i9⟩ := iceOk_iff.1 hi
      exact ⟨fun z hz => List.all_eq_true.1 i3 z hz, fun z hz => List.all_eq_true.1 i4 z hz, i5, i6, i7, i8, i9, i1, i2⟩
    · rw [if_neg hi] at h; cases h
  · rw [if_neg hv] at h; cases h
theorem mul_in {a b A B : Int} (h1 : 0 ≤ a) (h2 : a ≤ A) (h3 : 0 ≤ b) (h4 : b ≤ B) : 0 ≤ a * b ∧ a * b ≤ A * B :=
  ⟨Int.mul_nonneg h1 h3, Int.le_trans (Int.mul_le_mul_of_nonneg_right h2 h3) (Int.mul_le_mul_of_nonneg_left h4 (Int.le_trans h1 h2))⟩
/-- the bounds that a walk needs -/
theorem loss_in {c : Cov} {z : Bed} {u : Hour} (hf : Fine c) (hz : z ∈ c.beds) (hu : u ∈ c.hours) :
    (0 ≤ z.sun * u.melt.lo ∧ z.sun * u.melt.lo ≤ 450) ∧ (0 ≤ z.sun * u.melt.hi ∧ z.sun * u.melt.hi ≤ 450) ∧ (0 ≤ u.runs * c.wear.lo ∧ u.runs * c.wear.lo ≤ 1200) ∧ (0 ≤ u.runs * c.wear.hi ∧ u.runs * c.wear.hi ≤ 1200) := by
  have h1 := hf.bed z hz; have h2 := hf.hour u hu; have h3 := hf.wear
  simp only [bedOk, hourOk, Bool.and_eq_true, knownB_iff, inB_iff] at h1 h2 h3
  exact ⟨mul_in (A := 9) (B := 50) (by omega) (by omega) (by omega) (by omega), mul_in (A := 9) (B := 50) (by omega) (by omega) (by omega) (by omega), mul_in (A := 60) (B := 20) (by omega) (by omega) (by omega) (by omega), mul_in (A := 60) (B := 20) (by omega) (by omega) (by omega) (by omega)⟩
theorem lossC_in {c : Cov} {z : Bed} {u : Hour} (hf : Fine c) (hz : z ∈ c.beds) (hu : u ∈ c.hours) : 0 ≤ (lossC c z u).lo ∧ (lossC c z u).lo ≤ 1650 ∧ 0 ≤ (lossC c z u).hi ∧ (lossC c z u).hi ≤ 1650 := by
  have := loss_in hf hz hu
  simp only [lossC]; omega
set_option maxHeartbeats 2000000 in
theorem iloss_any (c : Cov) (A : Option Addr) (ca : Nat) (B : Option Addr) (cb : Nat) (C : Option Addr) (cc g i j : Nat) (z : Bed) (u : Hour) (w : World) (hr : InC w g 0 (cellsCov c A ca B cb C cc)) (h : CovAt w c A B C) (hs : Small c) (hf : Fine c) (hz : c.beds[i]? = some z) (hu : c.hours[j]? = some u) :
    Gv Tryd.prog 64 [.pointer (some ⟨g, 0, none⟩), .int .i64 (i : Int), .int .i64 (j : Int)] w (vSp (lossC c z u)) := by
  have h4 := hs.b; have h5 := hs.h
  have hb := h.b; have hh := h.h
  have hzm := List.mem_of_getElem? hz
  have hum := List.mem_of_getElem? hu
  obtain ⟨⟨m1, m2⟩, ⟨m3, m4⟩, ⟨m5, m6⟩, m7, m8⟩ := loss_in hf hzm hum
  have hi := (List.getElem?_eq_some_iff.1 hz).1
  have hj := (List.getElem?_eq_some_iff.1 hu).1
  obtain ⟨bb, o, rfl, hblt, hc⟩ := hb.at_ hi
  have : InS w bb o encBed 3 c.beds := ⟨hb⟩
  have : GetI c.beds i z := ⟨hz⟩
  obtain ⟨bc, oc, rfl, hblt2, hc2⟩ := hh.at_ hj
  have : InS w bc oc encHour 5 c.hours := ⟨hh⟩
  have : GetI c.hours j u := ⟨hu⟩
  unfold cellsCov at hr
  unfold Gv lossC vSp
  (refine ret_enter (n := 57) Tryd.func64 rfl rfl rfl ?_)
  (repeat' (first | ((with_reducible refine isOps ?_); first | (refine u_alloc rfl rfl rfl rfl (fun b => ?_))) | (with_reducible first | refine u_seq ?_ | refine u_region ?_ | refine u_nil ?_ | refine u_then_n ?_)))
  (refine u_chain (by kernel_rfl) [[], [true], [true, true], [true, true, true], [true, true, true, true], [false, false, false, false, false], [true, true, true, true, true, true], [true, true, true, true, true, true, true], [true, true, true, true, true, true, true, true], [false, false, false, false, false, false, false, false, false], [true, false, false, false, false, false, false, false, false, false], [true, true, false, false, false, false, false, false, false, false, false], [true, true, true, false, false, false, false, false, false, false, false, false], [true, true, true, true, false, false, false, false, false, false, false, false, false], [false, false, false, false, false, false, false, false, false, false, false, false, false, false], [true, true, true, true, true, true, false, false, false, false, false, false, false, false, false], [true, true, true, true, true, true, true, false, false, false, false, false, false, false, false, false], [false, false, false, false, false, false, false, false, false, false, false, false, false, false, false, false, false], [true, false, false, false, false, false, false, false, false, true, true, true, true, true, true, true, true, true], [true, true, true, true, true, true, true, true, true, true, true, true, true, true, true, true, true, true, true]] (by kernel_rfl) (by kernel_rfl) (by kernel_rfl) ?_)
  (repeat' (first | (((with_reducible refine c_go ?_ ?_); (· exact rfl); refine ⟨_, fun G => (by (try simp only [fltT, entsT, List.nil_append, List.cons_append]); rfl), ?_⟩); first | refine c_val _ (fun _ => e_move rfl rfl) (fun _ => rfl) rfl (by first | exact fun _ _ _ => rfl | (intro G G' h; simp (decide := true) only [h])) ?_ | refine c_val _ (fun _ => e_load' rfl rfl (by exact rfl)) (fun _ => rfl) rfl (by first | exact fun _ _ _ => rfl | (intro G G' h; simp (decide := true) only [h])) ?_ | (refine c_isField rfl ?_; refine c_val _ (fun _ => e_field rfl rfl) (fun _ => rfl) rfl (by first | exact fun _ _ _ => rfl | (intro G G' h; simp (decide := true) only [h])) ?_) | refine c_val _ (fun _ => e_assign rfl rfl) (fun _ => rfl) rfl (by first | exact fun _ _ _ => rfl | (intro G G' h; simp (decide := true) only [h])) ?_ | refine c_val _ (fun _ => e_index (I := i) rfl rfl rfl rfl (by omega)) (fun _ => rfl) rfl (by exact fun _ _ _ => rfl) ?_ | refine c_val _ (fun _ => e_index (I := j) rfl rfl rfl rfl (by omega)) (fun _ => rfl) rfl (by exact fun _ _ _ => rfl) ?_ | refine c_val _ (fun _ => e_nilCheck rfl rfl) (fun _ => rfl) rfl (by first | exact fun _ _ _ => rfl | (intro G G' h; simp (decide := true) only [h])) ?_ | refine c_alloc rfl (fun _ => rfl) rfl ?_) | ((with_reducible refine c_tail ?_ ?_); (· exact rfl))))
  (intro G; simp only [regsT, entsT, Pend.at_none, List.nil_append, List.cons_append])
  (repeat' (first | ((with_reducible refine isOps ?_); first | (refine x_store rfl rfl rfl rfl rfl ?_; refine And.intro rfl (And.intro (by first | decide | exact Nat.le_of_ble_eq_true rfl | (simp; omega)) ⟨_, rfl, ?_⟩))) | (with_reducible first | refine u_seq ?_ | refine u_nil ?_ | refine u_then_n ?_)))
  (refine u_chain (by kernel_rfl) [[], [false], [true, false], [true, true, false], [true, true, true, true], [false, false, false, false, false], [true, false, false, false, false, false], [false, false, false, false, false, false, false], [true, false, false, false, false, false, false, false], [true, true, false, false, false, false, false, false, false], [true, true, true, false, false, false, false, false, false, false], [true, true, true, true, false, false, false, false, false, false, false], [true, true, true, true, true, false, false, false, false, false, false, false], [true, true, true, true, true, true, true, true, false, false, false, false, false], [true, true, true, true, true, true, true, true, true, true, true, true, true, true], [false, false, false, false, false, false, false, false, false, false, false, false, false, false, false], [false, false, false, false, false, false, false, false, false, false, false, false, false, false, false, false], [true, false, false, false, false, false, false, false, false, false, false, false, false, false, false, false, false], [true, true, false, false, false, false, false, false, false, false, false, false, false, false, false, false, false, false], [true, true, true, true, false, false, false, false, false, false, false, false, false, false, false, false, false, false, false], [false, false, false, false, false, false, false, false, false, false, false, false, false, false, false, false, false, false, false, false], [true, false, false, false, false, false, false, false, false, false, false, false, false, false, false, false, false, false, false, false, false], [false, false, false, false, false, false, false, false, false, false, false, false, false, false, false, false, false, false, false, false, false, false], [true, false, false, false, false, false, false, false, false, false, false, false, false, false, false, false, false, false, false, false, false, false, false], [true, true, false, false, false, false, false, false, false, false, false, false, false, false, false, false, false, false, false, false, false, false, false, false], [true, true, true, false, false, false, false, false, false, false, false, false, false, false, false, false, false, false, false, false, false, false, false, false, false], [true, true, true, true, false, false, false, false, false, false, false, false, false, false, false, false, false, false, false, false, false, false, false, false, false, false], [true, true, true, true, true, false, false, false, false, false, false, false, false, false, false, false, false, false, false, false, false, false, false, false, false, false, false], [true, true, true, true, true, true, true, true, false, false, false, false, false, false, false, false, false, false, false, false, false, false, false, false, false, false, false, false], [true, true, true, true, true, true, true, true, true, true, true, true, true, true, false, false, false, false, false, false, false, false, false, false, false, false, false, false, false], [true, true, true, true, true, true, true, true, true, true, true, true, true, true, true, true, true, true, true, true, true, true, true, true, true, true, true, true, true, true], [true, true, true, true, true, true, true, true, true, true, true, true, true, true, true, true, true, true, true, true, true, true, true, true, true, true, true, true, true, true, true]] (by kernel_rfl) (by kernel_rfl) (by kernel_rfl) ?_)
  (repeat' (first | (((with_reducible refine c_go ?_ ?_); (· exact rfl); refine ⟨_, fun G => (by (try simp only [fltT, entsT, List.nil_append, List.cons_append]); rfl), ?_⟩); first | refine c_val _ (fun _ => e_move rfl rfl) (fun _ => rfl) rfl (by first | exact fun _ _ _ => rfl | (intro G G' h; simp (decide := true) only [h])) ?_ | refine c_val _ (fun _ => e_load' rfl rfl (by exact rfl)) (fun _ => rfl) rfl (by first | exact fun _ _ _ => rfl | (intro G G' h; simp (decide := true) only [h])) ?_ | (refine c_isField rfl ?_; refine c_val _ (fun _ => e_field rfl rfl) (fun _ => rfl) rfl (by first | exact fun _ _ _ => rfl | (intro G G' h; simp (decide := true) only [h])) ?_) | refine c_val _ (fun _ => e_add rfl rfl rfl (IntWalk.i64_in _ (by omega))) (fun _ => rfl) rfl (by first | exact fun _ _ _ => rfl | (intro G G' h; simp (decide := true) only [h])) ?_ | refine c_val _ (fun _ => e_mul rfl rfl rfl (IntWalk.i64_in _ (by omega))) (fun _ => rfl) rfl (by first | exact fun _ _ _ => rfl | (intro G G' h; simp (decide := true) only [h])) ?_ | refine c_val _ (fun _ => e_nilCheck rfl rfl) (fun _ => rfl) rfl (by first | exact fun _ _ _ => rfl | (intro G G' h; simp (decide := true) only [h])) ?_ | refine c_val _ (fun _ => e_build' rfl rfl (by exact rfl)) (fun _ => rfl) rfl (by first | exact fun _ _ _ => rfl | (intro G G' h; simp (decide := true) only [h])) ?_) | ((with_reducible refine c_tail ?_ ?_); (· exact rfl))))
  (intro G; simp only [regsT, entsT, Pend.at_none, List.nil_append, List.cons_append])
  (repeat' (first | ((with_reducible refine isOps ?_); first | (refine x_store rfl rfl rfl rfl rfl ?_; refine And.intro rfl (And.intro (by first | decide | exact Nat.le_of_ble_eq_true rfl | (simp; omega)) ⟨_, rfl, ?_⟩))) | (with_reducible first | refine u_nil ?_ | refine u_then_n ?_ | refine u_ret ?_)))
  exact u_done (by (exact ResL.cons (by exact res1c rfl (by exact rfl)) ResL.nil)) () trivial rfl (fun _ h => h.sub (by (repeat (first | exact Out.nil _ | (refine Out.cons (by (repeat (first | exact Take.here _ _ | apply Take.there))) ?_)))))
end Go.Proofs.YtdigopgncfhiaaaDoor
namespace Go.Proofs.YtdigopgncfhiaaaDoor.Two
set_option linter.unusedSimpArgs false
set_option linter.unusedVariables false
open Go.RowKit
set_option maxRecDepth 20000
set_option maxHeartbeats 2000000 in
theorem rloss2_any (c : Cov) (A : Option Addr) (ca : Nat) (B : Option Addr) (cb : Nat) (C : Option Addr) (cc i j : Nat) (z : Bed) (u : Hour) (w : World) (h : CovAt w c A B C) (hs : Small c) (hf : Fine c) (hz : c.beds[i]? = some z) (hu : c.hours[j]? = some u) :
    Gv Tryd.prog 66 [vCov c A ca B cb C cc, .int .i64 (i : Int), .int .i64 (j : Int)] w (vSp (lossC c z u)) := by
  have h4 := hs.b; have h5 := hs.h
  have hb := h.b; have hh := h.h
  have hzm := List.mem_of_getElem? hz
  have hum := List.mem_of_getElem? hu
  obtain ⟨⟨m1, m2⟩, ⟨m3, m4⟩, ⟨m5, m6⟩, m7, m8⟩ := loss_in hf hzm hum
  have hi := (List.getElem?_eq_some_iff.1 hz).1
  have hj := (List.getElem?_eq_some_iff.1 hu).1
  obtain ⟨bb, o, rfl, hblt, hc⟩ := hb.at_ hi
  have : InS w bb o encBed 3 c.beds := ⟨hb⟩
  have : GetI c.beds i z := ⟨hz⟩
  obtain ⟨bc, oc, rfl, hblt2, hc2⟩ := hh.at_ hj
  have : InS w bc oc encHour 5 c.hours := ⟨hh⟩
  have : GetI c.hours j u := ⟨hu⟩
  unfold Gv vCov cellsCov lossC vSp
  (refine ret_enter (n := 46) Tryd.func66 rfl rfl rfl ?_)
  (repeat' (first | ((with_reducible refine isOps ?_); first | (refine u_alloc rfl rfl rfl rfl (fun b => ?_)) | (refine u_box rfl rfl rfl rfl rfl rfl (fun b => ?_))) | (with_reducible first | refine u_seq ?_ | refine u_region ?_ | refine u_nil ?_ | refine u_then_n ?_)))
  (refine u_chain [(10, 12)] [] [] rfl (by decide) (fun _ h => h) (by kernel_rfl) [[], [true], [false, false], [true, true, true], [true, true, true, true], [false, false, false, false, false], [true, false, false, false, false, false], [false, false, false, false, false, false, false], [true, true, true, false, false, false, false, false], [true, true, true, true, false, false, false, false, false], [false, false, false, false, false, false, false, false, false, false], [false, false, false, false, false, false, false, false, false, false, false], [true, true, false, false, false, false, false, true, true, true, true, true], [true, true, true, true, true, true, true, true, true, true, true, true, true]] (by kernel_rfl) (by kernel_rfl) (by kernel_rfl) (by kernel_rfl) (by kernel_rfl) ?_)
  (repeat' (first | (((with_reducible refine c_go ?_ ?_); (· exact rfl); refine ⟨_, fun G => (by (try simp (decide := true) only [vis, see, fltT, entsT, Nat.reduceAdd, Nat.reduceSub, if_true, if_false, List.set_cons_zero, List.set_cons_succ, List.set_nil, List.nil_append, List.cons_append]); rfl), ?_⟩); first | refine c_val _ (fun _ => e_move rfl rfl) (fun _ => rfl) rfl (by first | exact fun _ _ _ => rfl | (intro G G' h; simp (decide := true) only [h])) ?_ | refine c_val _ (fun _ => e_load' rfl rfl (by exact rfl)) (fun _ => rfl) rfl (by first | exact fun _ _ _ => rfl | (intro G G' h; simp (decide := true) only [h])) ?_ | (refine c_isField rfl ?_; refine c_val _ (fun _ => e_field rfl rfl) (fun _ => rfl) rfl (by first | exact fun _ _ _ => rfl | (intro G G' h; simp (decide := true) only [h])) ?_) | refine c_val _ (fun _ => e_index (I := i) rfl rfl rfl rfl (by omega)) (fun _ => rfl) rfl (by exact fun _ _ _ => rfl) ?_ | refine c_val _ (fun _ => e_index (I := j) rfl rfl rfl rfl (by omega)) (fun _ => rfl) rfl (by exact fun _ _ _ => rfl) ?_ | refine c_alloc rfl (fun _ => rfl) rfl ?_) | (refine c_storeT (gx := fun G => (G 10).g) (cs := fun _ => [.int .i64 0, .int .i64 0, .int .i64 0]) (cs' := fun _ => encBed z) 10 (by decide) rfl rfl (fun _ => rfl) rfl (fun _ => rfl) (fun _ => rfl) (fun _ => rfl) (fun _ => rfl) (fun _ => rfl) (fun _ => rfl) (fun _ => rfl) (by intro G G' h; simp (decide := true) only [h]) (by exact fun _ _ _ => rfl) ?_) | ((with_reducible refine c_tail ?_ ?_); (· exact rfl))))
  intro G
  simp only [regsT, ini, List.nil_append, List.cons_append]
  refine u_own (H' := [.blk (G 10).g (encBed z), .blk (G 11).g [.int .i64 0, .int .i64 0, .int .i64 0, .int .i64 0, .bool false], .blk b [.int .i64 0, .int .i64 0], .blk _ (cellsCov c A ca (some ⟨bb, o, none⟩) cb (some ⟨bc, oc, none⟩) cc)]) (fun _ h => h) ?_
  unfold cellsCov
  (repeat' (first | ((with_reducible refine isOps ?_); first | (refine x_load rfl rfl rfl rfl rfl ?_; refine ⟨_, rfl, ?_⟩) | refine u_field rfl rfl rfl rfl rfl ?_ | refine u_add rfl rfl rfl rfl rfl rfl (IntWalk.i64_in _ (by omega)) ?_ | refine u_mul rfl rfl rfl rfl rfl rfl (IntWalk.i64_in _ (by omega)) ?_ | (refine x_store rfl rfl rfl rfl rfl ?_; refine And.intro rfl (And.intro (by first | decide | exact Nat.le_of_ble_eq_true rfl | (simp; omega)) ⟨_, rfl, ?_⟩)) | (refine x_build rfl rfl rfl rfl rfl ?_; refine ⟨_, rfl, ?_⟩)) | (with_reducible first | refine u_seq ?_ | refine u_region ?_ | refine u_nil ?_ | refine u_then_n ?_ | refine u_ret ?_)))
  exact u_done (by (exact ResL.cons (by exact res1c rfl (by exact rfl)) ResL.nil)) () trivial rfl (fun _ h => h.sub (by (repeat (first | exact Out.nil _ | (refine Out.cons (by (repeat (first | exact Take.here _ _ | apply Take.there))) ?_)))))
end Go.Proofs.YtdigopgncfhiaaaDoor.Two
/- Ice: Loss; contains; how thick ice is, by the reference. -/
namespace Go.Proofs.YtdigopgncfhiaaaDoor
open Go.RowKit
set_option linter.unusedSimpArgs false
set_option linter.unusedVariables false
set_option maxRecDepth 20000
theorem InC.below {w W : World} {b off : Nat} {vs : List Value} (h : InC w b off vs) (hb : Below w.heap.size w W) : InC W b off vs := ⟨fun j v hv => by
  have h1 := h.cells j v hv
  rw [hb.cell (p := ⟨b, off + j, none⟩) (World.block_lt_of_cell? w _ h1)]; exact h1⟩
/-! ### whether a list has a number -/
end Go.Proofs.YtdigopgncfhiaaaDoor
/- Ice: the order of pairs. -/
namespace Go.Proofs.YtdigopgncfhiaaaDoor
open Go.RowKit Go.Lib Go.Sort Go.Shelf
set_option linter.unusedSimpArgs false
set_option linter.unusedVariables false
set_option maxRecDepth 20000
def encPr (p : Int × Int) : List Value := [.int .i64 p.1, .int .i64 p.2]
instance : EncI encPr 2 := ⟨fun _ => rfl, fun p v hv => by simp [encPr] at hv; rcases hv with rfl | rfl <;> rfl⟩
end Go.Proofs.YtdigopgncfhiaaaDoor
/- Ice: what is too thin, in plain Lean. -/
namespace Go.Proofs.YtdigopgncfhiaaaDoor
open Go.RowKit Go.Sort
set_option linter.unusedSimpArgs false
set_option linter.unusedVariables false
def asksC (c : Cov) (u : Hour) : Int := if 0 < u.runs then c.limit else c.base
end Go.Proofs.YtdigopgncfhiaaaDoor
/- Ice: how thick ice has to be. -/
namespace Go.Proofs.YtdigopgncfhiaaaDoor
variable {ro : Option Nat}
open Go.RowKit
set_option linter.unusedSimpArgs false
set_option linter.unusedVariables false
set_option maxRecDepth 20000
section
variable {P : Program} {w0 : World} {n : Nat} {d : List Deferred} {R : List (Nat × Value)} {H : List Ent} {o : Oper} {x y : Operand} {v u : Value} {T T' : TypeId} {k : IntKind} {i j : Int}
theorem run_partV {s off : Nat} {g : Bool} {td : TypeDesc} {vs : List Value} (i1 : TyI P T td s g) (hv : rdv g (vs.drop off) s = some v) (w : World) : (Go.part T vs.toArray off).run P w = .ok v w := by
  unfold Go.part
  simp only [Sem.run_bind, i1.agg, Result.andThen_ok]
  cases g
  · simp only [rdv, List.getElem?_drop, Nat.add_zero] at hv
    simp [hv]
  · unfold rdv at hv
    simp only at hv
    cases hb : Nat.ble s (vs.drop off).length with
    | false => rw [hb] at hv; cases hv
    | true =>
      rw [hb] at hv
      simp only [cond_true, Option.some.injEq] at hv
      simp only [if_true, Sem.run_bind, i1.siz, Result.andThen_ok, Sem.run_pure, ← hv]
      congr 2
      rw [List.extract_toArray]
      simp [List.extract_eq_take_drop]
theorem e_indexV {e : TypeId} {s s' m I : Nat} {g g' : Bool} {td : TypeDesc} {vs : List Value} (hop : o.op = .index T x y) [i1 : TyI P T (.array m e) s g] [i2 : TyI P e td s' g'] (hx : evR R x = some (.agg vs.toArray)) (hy : evR R y = some (.int k i)) (hI : i = (I : Int)) (hi : I < m) (hv : rdv g' (vs.drop (I * s')) s' = some v) : Ev P w0 n d R H o v :=
  (fun a w q => by
    subst hI
    unfold execOp; rw [hop]
    have e1 := run_underlying i1.und w
    have e2 := i2.siz w
    have e3 := run_partV i2 hv w
    have h0 : (0 : Int) ≤ I := by omega
    have h1 : (I : Int) < m := by omega
    simp [q.ev hx, q.ev hy, Instr.index, asIntOf, e1, e2, hi, e3])
theorem e_fieldV {s s' m : Nat} {fs : Array Field} {f : Field} {g g' : Bool} {td : TypeDesc} {vs : List Value} (hop : o.op = .field T x m) [i1 : TyI P T (.struct fs) s g] (hx : evR R x = some (.agg vs.toArray)) (hf : fs[m]? = some f) (i2 : TyI P f.type td s' g') (hv : rdv g' (vs.drop f.offset) s' = some v) : Ev P w0 n d R H o v :=
  (fun a w q => by
    unfold execOp; rw [hop]
    have e1 := run_underlying i1.und w
    have e3 := run_partV i2 hv w
    simp [q.ev hx, Instr.field, asAgg, e1, hf, e3])
end
/-- the table of limits -/
def limC : List Value := [.func (.func 164) #[] #[], .func (.func 165) #[] #[], .func (.func 166) #[] #[], .func (.func 167) #[] #[]]
theorem lim1_any (u : Hour) (w : World) : Gv Tryd.prog 164 [vHour u] w (.bool true) := by
  unfold Gv vHour
  (refine ret_enter (n := 3) Tryd.func164 rfl rfl rfl ?_)
  (repeat' (first | ((with_reducible refine isOps ?_); first | refine u_assign rfl rfl rfl rfl rfl ?_ | (refine u_box rfl rfl rfl rfl rfl rfl (fun b => ?_))) | (with_reducible first | refine u_seq ?_ | refine u_region ?_ | refine u_nil ?_ | refine u_then_n ?_ | refine u_ret ?_)))
  all_goals exact u_done (by (exact ResL.cons (by exact Res1.tmp rfl) ResL.nil)) () trivial rfl (fun _ h => h.sub (by (repeat (first | exact Out.nil _ | (refine Out.cons (by (repeat (first | exact Take.here _ _ | apply Take.there))) ?_)))))
theorem lim3_any (u : Hour) (w : World) : Gv Tryd.prog 166 [vHour u] w (.bool (decide (0 < u.runs))) := by
  unfold Gv vHour
  (refine ret_enter (n := 6) Tryd.func166 rfl rfl rfl ?_)
  (repeat' (first | ((with_reducible refine isOps ?_); first | refine u_assign rfl rfl rfl rfl rfl ?_ | (refine x_load rfl rfl rfl rfl rfl ?_; refine ⟨_, rfl, ?_⟩) | refine u_field rfl rfl rfl rfl rfl ?_ | (refine u_cmp rfl rfl rfl rfl rfl rfl rfl (fun h => ?_) (fun h => ?_) <;> (dsimp only [cmpP] at h; (try (exfalso; omega)))) | (refine u_box rfl rfl rfl rfl rfl rfl (fun b => ?_))) | (with_reducible first | refine u_seq ?_ | refine u_region ?_ | refine u_nil ?_ | refine u_then_n ?_ | refine u_ret ?_)))
  all_goals exact u_done (by (exact ResL.cons (by exact Res1.tmp rfl) ResL.nil)) () trivial (by simp [resV]; omega) (fun _ h => h.sub (by (repeat (first | exact Out.nil _ | (refine Out.cons (by (repeat (first | exact Take.here _ _ | apply Take.there))) ?_)))))
theorem lim2_any (c : Cov) (A : Option Addr) (ca : Nat) (B : Option Addr) (cb : Nat) (C : Option Addr) (cc : Nat) (w : World) : Gv Tryd.prog 165 [vCov c A ca B cb C cc] w (.int .i64 c.base) := by
  unfold Gv vCov cellsCov
  (refine ret_enter (n := 5) Tryd.func165 rfl rfl rfl ?_)
  (repeat' (first | ((with_reducible refine isOps ?_); first | refine u_assign rfl rfl rfl rfl rfl ?_ | (refine x_load rfl rfl rfl rfl rfl ?_; refine ⟨_, rfl, ?_⟩) | refine u_field rfl rfl rfl rfl rfl ?_ | (refine u_box rfl rfl rfl rfl rfl rfl (fun b => ?_))) | (with_reducible first | refine u_seq ?_ | refine u_region ?_ | refine u_nil ?_ | refine u_then_n ?_ | refine u_ret ?_)))
  all_goals exact u_done (by (exact ResL.cons (by exact Res1.tmp rfl) ResL.nil)) () trivial rfl (fun _ h => h.sub (by (repeat (first | exact Out.nil _ | (refine Out.cons (by (repeat (first | exact Take.here _ _ | apply Take.there))) ?_)))))
theorem lim4_any (c : Cov) (A : Option Addr) (ca : Nat) (B : Option Addr) (cb : Nat) (C : Option Addr) (cc : Nat) (w : World) : Gv Tryd.prog 167 [vCov c A ca B cb C cc] w (.int .i64 c.limit) := by
  unfold Gv vCov cellsCov
  (refine ret_enter (n := 5) Tryd.func167 rfl rfl rfl ?_)
  (repeat' (first | ((with_reducible refine isOps ?_); first | refine u_assign rfl rfl rfl rfl rfl ?_ | (refine x_load rfl rfl rfl rfl rfl ?_; refine ⟨_, rfl, ?_⟩) | refine u_field rfl rfl rfl rfl rfl ?_ | (refine u_box rfl rfl rfl rfl rfl rfl (fun b => ?_))) | (with_reducible first | refine u_seq ?_ | refine u_region ?_ | refine u_nil ?_ | refine u_then_n ?_ | refine u_ret ?_)))
  all_goals exact u_done (by (exact ResL.cons (by exact Res1.tmp rfl) ResL.nil)) () trivial rfl (fun _ h => h.sub (by (repeat (first | exact Out.nil _ | (refine Out.cons (by (repeat (first | exact Take.here _ _ | apply Take.there))) ?_)))))
set_option maxHeartbeats 1000000 in
theorem greatest1_any (a b : Int) (A : Option Addr) (c : Nat) (w : World) (h : SlAt encI 1 w A [b]) : Gv Tryd.prog 120 [.int .i64 a, .slice A 1 c] w (.int .i64 (max a b)) := by
  obtain ⟨bb, o, rfl, hblt, hc⟩ := h.at_ (i := 0) (by simp)
  have : InS w bb o encI 1 [b] := ⟨h⟩
  have : GetI [b] 0 b := ⟨rfl⟩
  unfold Gv
  (refine ret_enter (n := 18) Tryd.func120 rfl rfl rfl ?_)
  (repeat' (first | ((with_reducible refine isOps ?_); first | refine u_move rfl rfl rfl rfl rfl ?_ | refine u_assign rfl rfl rfl rfl rfl ?_ | refine u_len rfl rfl rfl rfl rfl ?_) | (with_reducible first | refine u_seq ?_ | refine u_region ?_ | refine u_nil ?_ | refine u_then_n ?_ | refine u_block ?_)))
  refine u_loopP (ι := Nat) [7, 8] rfl (fun i => i ≤ 1) (fun i => [(9, .int .i64 (i : Int)), (0, .int .i64 (if i = 0 then a else max a b))]) (fun _ => []) (fun i => 1 - i) 0 (by omega) (by (first | exact fun _ _ h => lk_nil h | (repeat (first | exact (fun _ _ h => lk_nil h) | (refine lk_sub rfl ?_))))) (by (repeat (first | exact Out.nil _ | (refine Out.cons (by (repeat (first | exact Take.here _ _ | apply Take.there))) ?_)))) ?_
  rintro i hi
  simp only [zipR, List.cons_append, List.nil_append]
  by_cases h0 : i = 0
  · subst h0
    simp only [if_true]
    (repeat' (first | ((with_reducible refine isOps ?_); first | refine u_move rfl rfl rfl rfl rfl ?_ | refine u_assign rfl rfl rfl rfl rfl ?_ | (refine x_load rfl rfl rfl rfl rfl ?_; refine ⟨_, rfl, ?_⟩) | (refine u_cmp rfl rfl rfl rfl rfl rfl rfl (fun h => ?_) (fun h => ?_) <;> (dsimp only [cmpP] at h; (try (exfalso; omega)))) | refine u_add1 rfl rfl rfl rfl rfl rfl (by omega) ?_ | refine u_index rfl rfl rfl rfl rfl rfl rfl (by omega) ?_ | refine u_max rfl rfl rfl rfl rfl rfl ?_) | (with_reducible first | refine u_seq ?_ | refine u_region ?_ | refine u_nil ?_ | refine u_then_n ?_ | refine u_skip ?_ | refine u_block ?_ | refine u_in_n ?_) | ((with_reducible refine u_cond_t ?_ ?_); (· exact rfl))))
    exact u_again 1 (by omega) (by omega) (by (first | exact fun _ _ h => lk_nil h | (repeat (first | exact (fun _ _ h => lk_nil h) | (refine lk_sub rfl ?_))))) (by (repeat (first | exact Out.nil _ | (refine Out.cons (by (repeat (first | exact Take.here _ _ | apply Take.there))) ?_))))
  · obtain rfl : i = 1 := by omega
    simp only [Nat.one_ne_zero, if_false]
    (repeat' (first | ((with_reducible refine isOps ?_); first | refine u_move rfl rfl rfl rfl rfl ?_ | refine u_assign rfl rfl rfl rfl rfl ?_ | (refine u_cmp rfl rfl rfl rfl rfl rfl rfl (fun h => ?_) (fun h => ?_) <;> (dsimp only [cmpP] at h; (try (exfalso; omega))))) | (with_reducible first | refine u_seq ?_ | refine u_region ?_ | refine u_nil ?_ | refine u_then_n ?_ | refine u_ret ?_ | refine u_exit ?_ | refine u_in_same ?_ | refine u_then_e ?_) | ((with_reducible refine u_cond_f ?_ ?_); (· exact rfl))))
    exact u_done (by (exact ResL.cons (by exact Res1.tmp rfl) ResL.nil)) () trivial rfl (fun _ h => h.sub (by (repeat (first | exact Out.nil _ | (refine Out.cons (by (repeat (first | exact Take.here _ _ | apply Take.there))) ?_)))))
def asksN (c : Cov) (u : Hour) : Nat → Int
  | 0 => 0
  | 1 => max 0 c.base
  | _ => if 0 < u.runs then max (max 0 c.base) c.limit else max 0 c.base
theorem asks_eq {c : Cov} {u : Hour} (hf : Fine c) : asksN c u 2 = asksC c u := by
  have h1 := hf.limit; have h2 := hf.base
  simp only [inB_iff] at h1 h2
  simp only [asksN, asksC]; split <;> omega
set_option maxHeartbeats 2000000 in
theorem iasks_any (c : Cov) (A : Option Addr) (ca : Nat) (B : Option Addr) (cb : Nat) (C : Option Addr) (cc g : Nat) (u : Hour) (w : World) (hr : InC w g 0 (cellsCov c A ca B cb C cc)) (hG : InC w 0 0 limC) (hf : Fine c) :
    Gv Tryd.prog 88 [.pointer (some ⟨g, 0, none⟩), vHour u] w (.int .i64 (asksC c u)) := by
  have k1 := fun W => lim1_any u W
  have k3 := fun W => lim3_any u W
  have k2 := fun W => lim2_any c A ca B cb C cc W
  have k4 := fun W => lim4_any c A ca B cb C cc W
  have hmax := fun (a b : Int) (A : Option Addr) (c : Nat) (w : World) (h : SlAt encI 1 w A [b]) => greatest1_any a b A c w h
  rw [← asks_eq hf]
  unfold vHour at k1 k3
  unfold vCov at k2 k4
  unfold cellsCov at hr k2 k4
  unfold limC at hG
  unfold Gv vHour
  (refine ret_enter (n := 28) Tryd.func88 rfl rfl rfl ?_)
  (repeat' (first | ((with_reducible refine isOps ?_); first | refine u_move rfl rfl rfl rfl rfl ?_ | refine u_assign rfl rfl rfl rfl rfl ?_ | (refine x_load rfl rfl rfl rfl rfl ?_; refine ⟨_, rfl, ?_⟩) | (refine u_box rfl rfl rfl rfl rfl rfl (fun b => ?_))) | (with_reducible first | refine u_seq ?_ | refine u_region ?_ | refine u_nil ?_ | refine u_then_n ?_ | refine u_block ?_)))
  refine u_loopP (ι := Nat) [0, 3, 8] rfl (fun i => i ≤ 2) (fun i => [(9, .int .i64 (i : Int)), (5, .int .i64 (asksN c u i))]) (fun _ => [.blk b (encHour u)]) (fun i => 2 - i) 0 (by omega) (by (first | exact fun _ _ h => lk_nil h | (repeat (first | exact (fun _ _ h => lk_nil h) | (refine lk_sub rfl ?_))))) (by (repeat (first | exact Out.nil _ | (refine Out.cons (by (repeat (first | exact Take.here _ _ | apply Take.there))) ?_)))) ?_
  rintro i hi
  simp only [zipR, List.cons_append, List.nil_append]
  unfold encHour
  by_cases h0 : i = 0
  · subst h0
    (repeat' (first | ((with_reducible refine isOps ?_); first | (refine x_load rfl rfl rfl rfl rfl ?_; refine ⟨_, rfl, ?_⟩) | refine u_field rfl rfl rfl rfl rfl ?_ | (refine u_cmp rfl rfl rfl rfl rfl rfl rfl (fun h => ?_) (fun h => ?_) <;> (dsimp only [cmpP] at h; (try (exfalso; omega)))) | refine u_val rfl rfl rfl (e_indexV (I := 0) rfl rfl rfl rfl (by decide) rfl) ?_ | refine u_gives rfl rfl rfl rfl rfl rfl (fun _ _ q => k1 _) ?_ | (refine x_store rfl rfl rfl rfl rfl ?_; refine And.intro rfl (And.intro (by first | decide | exact Nat.le_of_ble_eq_true rfl | (simp; omega)) ⟨_, rfl, ?_⟩)) | (refine u_alloc rfl rfl rfl rfl (fun b => ?_))) | (with_reducible first | refine u_seq ?_ | refine u_region ?_ | refine u_nil ?_ | refine u_then_n ?_ | refine u_skip ?_ | refine u_block ?_) | ((with_reducible refine u_cond_t ?_ ?_); (· exact rfl))))
    (refine u_chain (by kernel_rfl) [[], [false], [true, false], [false, false, false], [true, false, false, false], [true, true, false, false, false], [true, true, true, false, false, false], [true, true, true, true, true, true, false], [true, true, true, true, true, true, true, false], [true, true, true, true, true, true, true, true, true], [true, true, true, true, true, true, true, true, true, true]] (by kernel_rfl) (by kernel_rfl) (by kernel_rfl) ?_)
    (repeat' (first | (((with_reducible refine c_go ?_ ?_); (· exact rfl); refine ⟨_, fun G => (by (try simp only [fltT, entsT, List.nil_append, List.cons_append]); rfl), ?_⟩); first | refine c_val _ (fun _ => e_move rfl rfl) (fun _ => rfl) rfl (by first | exact fun _ _ _ => rfl | (intro G G' h; simp (decide := true) only [h])) ?_ | refine c_val _ (fun _ => e_load' rfl rfl (by exact rfl)) (fun _ => rfl) rfl (by first | exact fun _ _ _ => rfl | (intro G G' h; simp (decide := true) only [h])) ?_ | (refine c_isField rfl ?_; refine c_val _ (fun _ => e_field rfl rfl) (fun _ => rfl) rfl (by first | exact fun _ _ _ => rfl | (intro G G' h; simp (decide := true) only [h])) ?_) | refine c_val _ (fun _ => e_assign rfl rfl) (fun _ => rfl) rfl (by first | exact fun _ _ _ => rfl | (intro G G' h; simp (decide := true) only [h])) ?_ | refine c_gives _ rfl (fun _ => rfl) rfl (fun _ => rfl) (fun _ => rfl) (fun _ _ _ q => k2 _) (by first | exact fun _ _ _ => rfl | (intro G G' h; simp (decide := true) only [h])) ?_ | refine c_gives _ rfl (fun _ => rfl) rfl (fun _ => rfl) (fun _ => rfl) (fun _ _ _ q => hmax _ _ _ _ _ (src_one (enc := encI) (by exact rfl) _ q.below q.own)) (by first | exact fun _ _ _ => rfl | (intro G G' h; simp (decide := true) only [h])) ?_ | refine c_val _ (fun _ => e_nilCheck rfl rfl) (fun _ => rfl) rfl (by first | exact fun _ _ _ => rfl | (intro G G' h; simp (decide := true) only [h])) ?_ | refine c_buildSlice rfl (fun _ => rfl) rfl (fun _ => rfl) (by exact rfl) (by exact fun _ => rfl) (by first | exact fun _ _ _ => rfl | (intro G G' h; simp (decide := true) only [h])) ?_) | (with_reducible refine c_nil ?_)))
    (intro G; simp only [regsT, entsT, Pend.at_none, List.nil_append, List.cons_append])
    (repeat' (first | ((with_reducible refine isOps ?_); first | refine u_move rfl rfl rfl rfl rfl ?_ | refine u_add1 rfl rfl rfl rfl rfl rfl (by omega) ?_) | (with_reducible first | refine u_region ?_ | refine u_nil ?_ | refine u_then_n ?_ | refine u_in_n ?_)))
    exact u_again 1 (by omega) (by omega) (by (first | exact fun _ _ h => lk_nil h | (repeat (first | exact (fun _ _ h => lk_nil h) | (refine lk_sub rfl ?_))))) (by (repeat (first | exact Out.nil _ | (refine Out.cons (by (repeat (first | exact Take.here _ _ | apply Take.there))) ?_))))
  · by_cases h1 : i = 1
    · subst h1
      (repeat' (first | ((with_reducible refine isOps ?_); first | refine u_move rfl rfl rfl rfl rfl ?_ | (refine x_load rfl rfl rfl rfl rfl ?_; refine ⟨_, rfl, ?_⟩) | refine u_field rfl rfl rfl rfl rfl ?_ | (refine u_cmp rfl rfl rfl rfl rfl rfl rfl (fun h => ?_) (fun h => ?_) <;> (dsimp only [cmpP] at h; (try (exfalso; omega)))) | refine u_val rfl rfl rfl (e_indexV (I := 1) rfl rfl rfl rfl (by decide) rfl) ?_ | (refine u_givesB rfl rfl rfl rfl rfl rfl (fun _ _ q => k3 _) (fun h => ?_) (fun h => ?_)) | refine u_add1 rfl rfl rfl rfl rfl rfl (by omega) ?_ | (refine x_store rfl rfl rfl rfl rfl ?_; refine And.intro rfl (And.intro (by first | decide | exact Nat.le_of_ble_eq_true rfl | (simp; omega)) ⟨_, rfl, ?_⟩)) | (refine u_alloc rfl rfl rfl rfl (fun b => ?_))) | (with_reducible first | refine u_seq ?_ | refine u_region ?_ | refine u_nil ?_ | refine u_then_n ?_ | refine u_skip ?_ | refine u_block ?_ | refine u_in_n ?_) | ((with_reducible refine u_cond_t ?_ ?_); (· exact rfl)) | ((with_reducible refine u_cond_f ?_ ?_); (· exact rfl))))
      · (refine u_chain (by kernel_rfl) [[], [false], [true, false], [false, false, false], [true, false, false, false], [true, true, false, false, false], [true, true, true, false, false, false], [true, true, true, true, true, true, false], [true, true, true, true, true, true, true, false], [true, true, true, true, true, true, true, true, true], [true, true, true, true, true, true, true, true, true, true]] (by kernel_rfl) (by kernel_rfl) (by kernel_rfl) ?_)
        (repeat' (first | (((with_reducible refine c_go ?_ ?_); (· exact rfl); refine ⟨_, fun G => (by (try simp only [fltT, entsT, List.nil_append, List.cons_append]); rfl), ?_⟩); first | refine c_val _ (fun _ => e_move rfl rfl) (fun _ => rfl) rfl (by first | exact fun _ _ _ => rfl | (intro G G' h; simp (decide := true) only [h])) ?_ | refine c_val _ (fun _ => e_load' rfl rfl (by exact rfl)) (fun _ => rfl) rfl (by first | exact fun _ _ _ => rfl | (intro G G' h; simp (decide := true) only [h])) ?_ | (refine c_isField rfl ?_; refine c_val _ (fun _ => e_field rfl rfl) (fun _ => rfl) rfl (by first | exact fun _ _ _ => rfl | (intro G G' h; simp (decide := true) only [h])) ?_) | refine c_val _ (fun _ => e_assign rfl rfl) (fun _ => rfl) rfl (by first | exact fun _ _ _ => rfl | (intro G G' h; simp (decide := true) only [h])) ?_ | refine c_gives _ rfl (fun _ => rfl) rfl (fun _ => rfl) (fun _ => rfl) (fun _ _ _ q => k4 _) (by first | exact fun _ _ _ => rfl | (intro G G' h; simp (decide := true) only [h])) ?_ | refine c_gives _ rfl (fun _ => rfl) rfl (fun _ => rfl) (fun _ => rfl) (fun _ _ _ q => hmax _ _ _ _ _ (src_one (enc := encI) (by exact rfl) _ q.below q.own)) (by first | exact fun _ _ _ => rfl | (intro G G' h; simp (decide := true) only [h])) ?_ | refine c_val _ (fun _ => e_nilCheck rfl rfl) (fun _ => rfl) rfl (by first | exact fun _ _ _ => rfl | (intro G G' h; simp (decide := true) only [h])) ?_ | refine c_buildSlice rfl (fun _ => rfl) rfl (fun _ => rfl) (by exact rfl) (by exact fun _ => rfl) (by first | exact fun _ _ _ => rfl | (intro G G' h; simp (decide := true) only [h])) ?_) | (with_reducible refine c_nil ?_)))
        (intro G; simp only [regsT, entsT, Pend.at_none, List.nil_append, List.cons_append])
        (repeat' (first | ((with_reducible refine isOps ?_); first | refine u_move rfl rfl rfl rfl rfl ?_ | refine u_add1 rfl rfl rfl rfl rfl rfl (by omega) ?_) | (with_reducible first | refine u_region ?_ | refine u_nil ?_ | refine u_then_n ?_ | refine u_in_n ?_)))
        have e : asksN c u 2 = max (asksN c u 1) c.limit := by simp only [decide_eq_true_eq] at h; simp only [asksN, if_pos h]
        exact u_again 2 (by omega) (by omega) (by rw [e]; (first | exact fun _ _ h => lk_nil h | (repeat (first | exact (fun _ _ h => lk_nil h) | (refine lk_sub rfl ?_))))) (by (repeat (first | exact Out.nil _ | (refine Out.cons (by (repeat (first | exact Take.here _ _ | apply Take.there))) ?_))))
      · have e : asksN c u 2 = asksN c u 1 := by simp only [decide_eq_false_iff_not] at h; simp only [asksN, if_neg h]
        exact u_again 2 (by omega) (by omega) (by rw [e]; (first | exact fun _ _ h => lk_nil h | (repeat (first | exact (fun _ _ h => lk_nil h) | (refine lk_sub rfl ?_))))) (by (repeat (first | exact Out.nil _ | (refine Out.cons (by (repeat (first | exact Take.here _ _ | apply Take.there))) ?_))))
    · obtain rfl : i = 2 := by omega
      (repeat' (first | ((with_reducible refine isOps ?_); first | refine u_move rfl rfl rfl rfl rfl ?_ | refine u_assign rfl rfl rfl rfl rfl ?_ | (refine u_cmp rfl rfl rfl rfl rfl rfl rfl (fun h => ?_) (fun h => ?_) <;> (dsimp only [cmpP] at h; (try (exfalso; omega))))) | (with_reducible first | refine u_seq ?_ | refine u_region ?_ | refine u_nil ?_ | refine u_then_n ?_ | refine u_ret ?_ | refine u_exit ?_ | refine u_in_same ?_ | refine u_then_e ?_) | ((with_reducible refine u_cond_f ?_ ?_); (· exact rfl))))
      exact u_done (by (exact ResL.cons (by exact Res1.tmp rfl) ResL.nil)) () trivial rfl (fun _ h => h.sub (by (repeat (first | exact Out.nil _ | (refine Out.cons (by (repeat (first | exact Take.here _ _ | apply Take.there))) ?_)))))
theorem rasks2_any (c : Cov) (A : Option Addr) (ca : Nat) (B : Option Addr) (cb : Nat) (C : Option Addr) (cc j : Nat) (u : Hour) (w : World) (h : CovAt w c A B C) (hs : Small c) (hu : c.hours[j]? = some u) :
    Gv Tryd.prog 76 [vCov c A ca B cb C cc, .int .i64 (j : Int)] w (.int .i64 (asksC c u)) := by
  have h5 := hs.h
  have hh := h.h
  have hj := (List.getElem?_eq_some_iff.1 hu).1
  obtain ⟨bc, oc, rfl, hblt2, hc2⟩ := hh.at_ hj
  have : InS w bc oc encHour 5 c.hours := ⟨hh⟩
  have : GetI c.hours j u := ⟨hu⟩
  unfold Gv vCov cellsCov
  (refine ret_enter (n := 16) Tryd.func76 rfl rfl rfl ?_)
  (repeat' (first | ((with_reducible refine isOps ?_); first | refine u_move rfl rfl rfl rfl rfl ?_ | refine u_assign rfl rfl rfl rfl rfl ?_ | (refine x_load rfl rfl rfl rfl rfl ?_; refine ⟨_, rfl, ?_⟩) | refine u_field rfl rfl rfl rfl rfl ?_ | (refine u_cmp rfl rfl rfl rfl rfl rfl rfl (fun h => ?_) (fun h => ?_) <;> (dsimp only [cmpP] at h; (try (exfalso; omega)))) | refine u_index (I := j) rfl rfl rfl rfl rfl rfl rfl (by omega) ?_ | (refine u_box rfl rfl rfl rfl rfl rfl (fun b => ?_))) | (with_reducible first | refine u_seq ?_ | refine u_region ?_ | refine u_nil ?_ | refine u_then_n ?_ | refine u_ret ?_ | refine u_skip ?_ | refine u_then_r ?_) | ((with_reducible refine u_cond_t ?_ ?_); (· exact rfl)) | ((with_reducible refine u_cond_f ?_ ?_); (· exact rfl))))
  all_goals exact u_done (by (exact ResL.cons (by exact Res1.tmp rfl) ResL.nil)) () trivial (by unfold asksC; first | (rw [if_pos (by omega)]; rfl) | (rw [if_neg (by omega)]; rfl)) (fun _ h => h.sub (by (repeat (first | exact Out.nil _ | (refine Out.cons (by (repeat (first | exact Take.here _ _ | apply Take.there))) ?_)))))
end Go.Proofs.YtdigopgncfhiaaaDoor
/- A scope without a goto. -/
namespace Go.Proofs.YtdigopgncfhiaaaDoor
variable {ro : Option Nat}
open Go.RowKit
set_option linter.unusedSimpArgs false
section
variable {P : Program} {w0 : World} {n : Nat} {d : List Deferred} {R : List (Nat × Value)} {H H' : List Ent} {Q : Exit → Act → World → Prop} {ops : Array Oper} {rest : List Oper} {o : Oper} {t : Tmp} {x y : Operand}
theorem x_buildA {T1 : TypeId} {ps : Array (Nat × Operand)} {s : Nat} {z : List Value} {qs : List (Nat × Value)} (hop : o.op = .build T1 ps) [i1 : TyBA P T1 s z] (hw : want R ops o = some true) (hd : o.dst = some t) (ht : Nat.blt t n = true) (hp : evp R ps.toList = some qs)
    (h : ∃ cs, fillL (fun i => some (i * s, s)) z qs = some cs ∧ U w0 n d ((t, .agg cs.toArray) :: R) H (wpL ro P ops Q rest)) : U w0 n d R H (wpL ro P ops Q (o :: rest)) := by
  obtain ⟨cs, hf, h⟩ := h
  exact u_val hw hd ht (fun a w q => by
    unfold execOp; rw [hop]
    have e1 : (ps.map fun (i, x) => (i, a.eval x)).toList = qs := by rw [Array.toList_map]; exact q.evp hp
    have e2 : P.built T1 (ps.map fun (i, x) => (i, a.eval x)).toList = some cs.toArray := by
      rw [i1.bui, e1]
      exact fill_eq _ qs z cs hf
    simp only [Sem.run_bind, run_build w T1 _ _ e2, Result.andThen_ok, Sem.run_pure]) h
end
theorem run_eql_some_nil {P : Program} (w : World) {t e : TypeId} (a : Addr) (n c : Nat) (ht : P.underlying t = some (.slice e)) : (binOp .eql t (.slice (some a) n c) (.slice none 0 0)).run P w = .ok (.bool false) w := by
  have := Lib.run_eql_slice_nil (P := P) w t e (some a) n c 0 0 ht
  simpa using this
section
variable {P : Program} {w0 : World} {n : Nat} {d : List Deferred} {R : List (Nat × Value)} {H H' : List Ent} {Q : Exit → Act → World → Prop} {ops : Array Oper} {rest : List Oper} {o : Oper} {t : Tmp} {x y : Operand}
theorem u_eqlNil {T1 T2 e : TypeId} {s m c : Nat} {g : Bool} {A : Addr} (hop : o.op = .binOp .eql T1 x y T2) [i1 : TyI P T1 (.slice e) s g] (hw : want R ops o = some true) (hd : o.dst = some t) (ht : Nat.blt t n = true) (hx : evR R x = some (.slice (some A) m c)) (hy : evR R y = some (.slice none 0 0))
    (h : U w0 n d ((t, .bool false) :: R) H (wpL ro P ops Q rest)) : U w0 n d R H (wpL ro P ops Q (o :: rest)) :=
  u_eql (b := false) hop hw hd ht hx hy (fun w => by simp [eqGuard]) (fun w => run_eql_some_nil w A m c i1.und) (fun h => by cases h) (fun _ => h)
end
end Go.Proofs.YtdigopgncfhiaaaDoor
/- Ice: what is too thin: the rounds over the days of a stretch. -/
namespace Go.Proofs.YtdigopgncfhiaaaDoor
variable {ro : Option Nat}
open Go.RowKit
set_option linter.unusedSimpArgs false
set_option linter.unusedVariables false
set_option maxRecDepth 20000
theorem elem_pr : Elem Tryd.prog 70 134 2 16 (.agg #[.int .i64 0, .int .i64 0]) :=
  ⟨by rfl, by exact ⟨_, rfl, rfl, rfl, rfl⟩, by decide, by decide⟩
instance elI_pr : ElI Tryd.prog 70 134 2 16 := ⟨⟨_, elem_pr⟩⟩
end Go.Proofs.YtdigopgncfhiaaaDoor
/- Ice: an hour with other runs; how many sleds it bears. -/
namespace Go.Proofs.YtdigopgncfhiaaaDoor
open Go.RowKit
set_option linter.unusedSimpArgs false
set_option linter.unusedVariables false
set_option maxRecDepth 20000
theorem elem_ho : Elem Tryd.prog 26 120 5 40 (.agg #[.int .i64 0, .int .i64 0, .int .i64 0, .int .i64 0, .bool false]) :=
  ⟨by rfl, by exact ⟨_, rfl, rfl, rfl, rfl⟩, by decide, by decide⟩
instance elI_ho : ElI Tryd.prog 26 120 5 40 := ⟨⟨_, elem_ho⟩⟩
theorem elem_be : Elem Tryd.prog 25 117 3 24 (.agg #[.int .i64 0, .int .i64 0, .int .i64 0]) :=
  ⟨by rfl, by exact ⟨_, rfl, rfl, rfl, rfl⟩, by decide, by decide⟩
instance elI_be : ElI Tryd.prog 25 117 3 24 := ⟨⟨_, elem_be⟩⟩
theorem clone_ho (t : List Hour) (A : Option Addr) (c : Nat) (w : World) (ht : SlAt encHour 5 w A t) (h0 : 0 < t.length) (hl : t.length ≤ 1000) :
    Ret Tryd.prog 58 [.slice A t.length c] w (fun p : Option Addr × Nat => .slice p.1 t.length p.2) (fun p => [.row encHour 5 120 (.slice p.1 t.length p.2) t]) (fun _ => True) := by
  obtain ⟨bb, o, rfl, _⟩ := ht.at_ h0
  (refine ret_enter (n := 8) Tryd.func58 rfl rfl rfl ?_)
  (repeat' (first | ((with_reducible refine isOps ?_); first | refine u_move rfl rfl rfl rfl rfl ?_ | refine u_assign rfl rfl rfl rfl rfl ?_ | refine u_eqlNil rfl rfl rfl rfl rfl rfl ?_ | (refine u_buildNil encHour rfl rfl rfl rfl (fun b => ?_)) | (refine u_append (enc := encHour) t rfl rfl rfl rfl rfl (by (repeat (first | exact Take.here _ _ | apply Take.there))) rfl rfl (src_in ht) (by refine ⟨?_, by decide⟩; (try simp only [List.length_append, List.length_cons, List.length_nil]); omega) (fun A' c' => ?_))) | (with_reducible first | refine u_seq ?_ | refine u_region ?_ | refine u_nil ?_ | refine u_then_n ?_ | refine u_ret ?_ | refine u_skip ?_) | ((with_reducible refine u_cond_f ?_ ?_); (· exact rfl))))
  exact u_done (by (exact ResL.cons (by exact Res1.tmp rfl) ResL.nil)) (A', c') trivial rfl (fun _ h => h.sub (by (repeat (first | exact Out.nil _ | (refine Out.cons (by (repeat (first | exact Take.here _ _ | apply Take.there))) ?_)))))
end Go.Proofs.YtdigopgncfhiaaaDoor
/- Ice: Most. -/
