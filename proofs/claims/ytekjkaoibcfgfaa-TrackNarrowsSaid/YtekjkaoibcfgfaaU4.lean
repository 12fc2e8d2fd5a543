/- The rules of the walk for regions whose order is left open. (The first part is printed by a program out of the rules of U1.) -/
import Derived.Test.YtekjkaoibcfgfaaU3
namespace Go.Proofs.Ytekjkaoibcfgfaa
open Go.RowKit
set_option linter.unusedSimpArgs false
set_option linter.unusedVariables false

/-- an operation that only returns a value -/
def Ev (P : Program) (w0 : World) (n : Nat) (d : List Deferred) (R : List (Nat × Value)) (H : List Ent) (o : Oper) (v : Value) : Prop :=
  ∀ a w, Kn w0 n d R H a w → (execOp a.eval o).run P w = .ok (.value v) w

section
variable {P : Program} {w0 : World} {n : Nat} {d : List Deferred} {R : List (Nat × Value)} {H : List Ent} {o : Oper} {x y : Operand} {v u : Value} {T T' : TypeId} {k : IntKind} {i j : Int}
theorem e_move (hop : o.op = .move x) (hx : evR R x = some v) : Ev P w0 n d R H o (v) :=
  (fun a w k => by unfold execOp; rw [hop]; simp only [Sem.run_pure, k.ev hx])
theorem e_assign (hop : o.op = .assign x) (hx : evR R x = some v) : Ev P w0 n d R H o (v) :=
  (fun a w k => by unfold execOp; rw [hop]; simp only [Sem.run_pure, k.ev hx])
theorem e_pick {c : Operand} {b : Bool} (hop : o.op = .pick c x y) (hc : evR R c = some (.bool b)) (hx : evR R (cond b x y) = some v) : Ev P w0 n d R H o (v) :=
  (fun a w k => by
    unfold execOp; rw [hop]
    simp only [Sem.run_bind, k.ev hc, asBool, Sem.run_pure, Result.andThen_ok]
    have := k.ev hx
    cases b <;> simp_all)
theorem e_extract {i : Nat} {vs : List Value} (hop : o.op = .extract x i) (hx : evR R x = some (.tuple vs.toArray)) (hi : vs[i]? = some v) : Ev P w0 n d R H o (v) :=
  (fun a w k => by unfold execOp; rw [hop]; simp [k.ev hx, Instr.extract, hi])
theorem e_not {b : Bool} {T : TypeId} (hop : o.op = .unOp .not T x) (hx : evR R x = some (.bool b)) : Ev P w0 n d R H o (.bool (not b)) :=
  (fun a w k => by unfold execOp; rw [hop]; simp [k.ev hx, Op.unary])
theorem e_neg {T : TypeId} {k : IntKind} {i : Int} (hop : o.op = .unOp .neg T x) (hx : evR R x = some (.int k i)) (hr : k.wrap (0 - i) = -i) : Ev P w0 n d R H o (.int k (-i)) :=
  (fun a w q => by unfold execOp; rw [hop]; simp only [Sem.run_bind, q.ev hx, Op.unary, Op.intArith, Sem.run_pure, Result.andThen_ok, hr])
theorem e_add (hop : o.op = .binOp .add T x y T') (hx : evR R x = some (.int k i)) (hy : evR R y = some (.int k j)) (hr : k.wrap (i + j) = i + j) : Ev P w0 n d R H o (.int k (i + j)) :=
  (fun a w q => by unfold execOp; rw [hop]; simp [q.ev hx, q.ev hy, eqGuard, binOp, Op.intArith, hr])
theorem e_add1 {m : Nat} (hop : o.op = .binOp .add T x y T') (hx : evR R x = some (.int .i64 (m : Int))) (hy : evR R y = some (.int .i64 1)) (hr : m < 9223372036854775807) : Ev P w0 n d R H o (.int .i64 ((m + 1 : Nat) : Int)) :=
  (fun a w q => by
    unfold execOp; rw [hop]
    have := IntWalk.i64_in ((m : Int) + 1) (by omega)
    simp [q.ev hx, q.ev hy, eqGuard, binOp, Op.intArith, this])
theorem e_sub (hop : o.op = .binOp .sub T x y T') (hx : evR R x = some (.int k i)) (hy : evR R y = some (.int k j)) (hr : k.wrap (i - j) = i - j) : Ev P w0 n d R H o (.int k (i - j)) :=
  (fun a w q => by unfold execOp; rw [hop]; simp [q.ev hx, q.ev hy, eqGuard, binOp, Op.intArith, hr])
theorem e_mul (hop : o.op = .binOp .mul T x y T') (hx : evR R x = some (.int k i)) (hy : evR R y = some (.int k j)) (hr : k.wrap (i * j) = i * j) : Ev P w0 n d R H o (.int k (i * j)) :=
  (fun a w q => by unfold execOp; rw [hop]; simp [q.ev hx, q.ev hy, eqGuard, binOp, Op.intArith, hr])
theorem e_quo (hop : o.op = .binOp .quo T x y T') (hx : evR R x = some (.int k i)) (hy : evR R y = some (.int k j)) (h0 : 0 ≤ i) (h1 : 0 < j) (hr : k.wrap (i / j) = i / j) : Ev P w0 n d R H o (.int k (i / j)) :=
  (fun a w q => by
    unfold execOp; rw [hop]
    have h2 : ¬ j = 0 := by omega
    simp [q.ev hx, q.ev hy, eqGuard, binOp, Op.intDiv, h2, Int.tdiv_eq_ediv_of_nonneg h0, hr])
theorem e_rem (hop : o.op = .binOp .rem T x y T') (hx : evR R x = some (.int k i)) (hy : evR R y = some (.int k j)) (h0 : 0 ≤ i) (h1 : 0 < j) : Ev P w0 n d R H o (.int k (i % j)) :=
  (fun a w q => by
    unfold execOp; rw [hop]
    have h2 : ¬ j = 0 := by omega
    simp [q.ev hx, q.ev hy, eqGuard, binOp, Op.intDiv, h2, Int.tmod_eq_emod_of_nonneg h0])
theorem e_convert {T1 T2 : TypeId} {d1 : TypeDesc} {s1 s2 : Nat} {g1 g2 : Bool} {k' : IntKind} (hop : o.op = .convert T1 T2 x) [i1 : TyI P T1 d1 s1 g1] [i2 : TyI P T2 (.int k') s2 g2] (hx : evR R x = some (.int k i)) (hr : k'.wrap i = i) : Ev P w0 n d R H o (.int k' i) :=
  (fun a w q => by
    unfold execOp; rw [hop]
    have e1 := run_underlying i1.und w
    have e2 := run_underlying i2.und w
    simp [q.ev hx, convert, e1, e2, Conv.intToInt, hr])
theorem e_nilCheck {p : Addr} (hop : o.op = .nilCheck x) (hx : evR R x = some (.pointer (some p))) : Ev P w0 n d R H o (.pointer (some p)) :=
  (fun a w q => by unfold execOp; rw [hop]; simp [q.ev hx])
theorem e_makeFunc {fn : Fn} {fs cs : Array Operand} {us vs : List Value} (hop : o.op = .makeFunc fn fs cs) (hx : evs R fs.toList = some us) (hy : evs R cs.toList = some vs) : Ev P w0 n d R H o (.func fn us.toArray vs.toArray) :=
  (fun a w q => by
    unfold execOp; rw [hop]
    have e1 : fs.map a.eval = us.toArray := by apply Array.ext'; simpa using q.evs hx
    have e2 : cs.map a.eval = vs.toArray := by apply Array.ext'; simpa using q.evs hy
    simp [e1, e2, Instr.makeFunc])
theorem e_len {e : TypeId} {s : Nat} {g : Bool} {A : Option Addr} {m c : Nat} (hop : o.op = .call ⟨.builtin .len, #[x], #[T]⟩) [i1 : TyI P T (.slice e) s g] (hx : evR R x = some (.slice A m c)) : Ev P w0 n d R H o (.int .i64 (m : Int)) :=
  (fun a w q => by
    unfold execOp; rw [hop]
    have e1 := run_underlying i1.und w
    simp [q.ev hx, resolve, invoke, builtin, Builtin.len_, e1, goInt])
theorem e_cap {e : TypeId} {s : Nat} {g : Bool} {A : Option Addr} {m c : Nat} (hop : o.op = .call ⟨.builtin .cap, #[x], #[T]⟩) [i1 : TyI P T (.slice e) s g] (hx : evR R x = some (.slice A m c)) : Ev P w0 n d R H o (.int .i64 (c : Int)) :=
  (fun a w q => by
    unfold execOp; rw [hop]
    have e1 := run_underlying i1.und w
    simp [q.ev hx, resolve, invoke, builtin, Builtin.cap_, e1, goInt])
theorem e_min {ts : Array TypeId} (hop : o.op = .call ⟨.builtin .min, #[x, y], ts⟩) (hx : evR R x = some (.int k i)) (hy : evR R y = some (.int k j)) : Ev P w0 n d R H o (.int k (min i j)) :=
  (fun a w q => by
    unfold execOp; rw [hop]
    have : (if j < i then j else i) = min i j := by omega
    simp [q.ev hx, q.ev hy, resolve, invoke, builtin, Builtin.min_, Builtin.min2, this])
theorem e_max {ts : Array TypeId} (hop : o.op = .call ⟨.builtin .max, #[x, y], ts⟩) (hx : evR R x = some (.int k i)) (hy : evR R y = some (.int k j)) : Ev P w0 n d R H o (.int k (max i j)) :=
  (fun a w q => by
    unfold execOp; rw [hop]
    have : (if i < j then j else i) = max i j := by omega
    simp [q.ev hx, q.ev hy, resolve, invoke, builtin, Builtin.max_, Builtin.max2, this])
theorem e_field {m b off off' : Nat} (hop : o.op = .fieldAddr T x m) [i1 : FoI P T m off'] (hx : evR R x = some (.pointer (some ⟨b, off, none⟩))) : Ev P w0 n d R H o (.pointer (some ⟨b, off + off', none⟩)) :=
  (fun a w q => by
    unfold execOp; rw [hop]
    simp only [q.ev hx, Sem.run_bind, i1.at_, Result.andThen_ok, Sem.run_pure])
theorem e_index {e : TypeId} {s s' b off m c : Nat} {g g' : Bool} {td : TypeDesc} {I : Nat} (hop : o.op = .indexAddr T x y) [i1 : TyI P T (.slice e) s g] [i2 : TyI P e td s' g'] (hx : evR R x = some (.slice (some ⟨b, off, none⟩) m c)) (hy : evR R y = some (.int k i)) (hI : i = (I : Int)) (hi : I < m) : Ev P w0 n d R H o (.pointer (some ⟨b, off + I * s', none⟩)) :=
  (fun a w q => by
    subst hI
    unfold execOp; rw [hop]
    have e1 := run_underlying i1.und w
    have e2 := i2.siz w
    have h0 : (0 : Int) ≤ I := by omega
    have h1 : (I : Int) < m := by omega
    simp [q.ev hx, q.ev hy, Instr.indexAt, asIntOf, e1, e2, hi, addr_add])
theorem e_indexA {e : TypeId} {s s' b off m : Nat} {g g' : Bool} {td : TypeDesc} {I : Nat} (hop : o.op = .indexAddr T x y) [i1 : TyI P T (.array m e) s g] [i2 : TyI P e td s' g'] (hx : evR R x = some (.pointer (some ⟨b, off, none⟩))) (hy : evR R y = some (.int k i)) (hI : i = (I : Int)) (hi : I < m) : Ev P w0 n d R H o (.pointer (some ⟨b, off + I * s', none⟩)) :=
  (fun a w q => by
    subst hI
    unfold execOp; rw [hop]
    have e1 := run_underlying i1.und w
    have e2 := i2.siz w
    have h0 : (0 : Int) ≤ I := by omega
    have h1 : (I : Int) < m := by omega
    simp [q.ev hx, q.ev hy, Instr.indexAt, asIntOf, e1, e2, hi, addr_add, Instr.sureAddr])
theorem e_build {T : TypeId} {ps : Array (Nat × Operand)} {pl : List (Nat × Nat)} {z cs : List Value} {qs : List (Nat × Value)} (hop : o.op = .build T ps) [i1 : TyB P T pl z] (hp : evp R ps.toList = some qs)
    (hf : fillL (pl[·]?) z qs = some cs) : Ev P w0 n d R H o (.agg cs.toArray) :=
  (fun a w q => by
    unfold execOp; rw [hop]
    have e1 : (ps.map fun (i, x) => (i, a.eval x)).toList = qs := by rw [Array.toList_map]; exact q.evp hp
    have e2 : P.built T (ps.map fun (i, x) => (i, a.eval x)).toList = some cs.toArray := by
      rw [i1.bui, e1]
      have := fill_eq (pl[·]?) qs z cs hf
      simpa using this
    simp only [Sem.run_bind, run_build w T _ _ e2, Result.andThen_ok, Sem.run_pure])
theorem e_load {T : TypeId} {td : TypeDesc} {s b off : Nat} {g : Bool} {vs : List Value} (hop : o.op = .load T x) [i1 : TyI P T td s g] (hx : evR R x = some (.pointer (some ⟨b, off, none⟩))) (hs : Src w0 H b off vs) (hv : rdv g vs s = some v) : Ev P w0 n d R H o (v) :=
  (fun a w q => by
    unfold execOp; rw [hop]
    have e1 := i1.agg w
    have e2 := i1.siz w
    have hc := hs w q.below q.own
    cases g
    · simp only [rdv] at hv
      have := hc 0 v hv
      simp only [Nat.add_zero] at this
      simp [q.ev hx, Instr.loadAt, Instr.sureAddr, loadVar, e1, this]
    · simp only [rdv] at hv
      cases hl : Nat.ble s vs.length with
      | false => rw [hl] at hv; simp at hv
      | true =>
        rw [hl] at hv
        simp only [cond_true, Option.some.injEq] at hv
        subst hv
        have hlen : (vs.take s).length = s := by have := Nat.le_of_ble_eq_true hl; simp; omega
        have := run_loadCells_list (P := P) w ⟨b, off, none⟩ (vs.take s) (fun j u hu => by
          rw [addr_add]
          refine hc j u ?_
          rw [List.getElem?_take] at hu
          split at hu
          · exact hu
          · cases hu)
        rw [hlen] at this
        simp [q.ev hx, Instr.loadAt, Instr.sureAddr, loadVar, e1, e2, this])
theorem e_load' {td : TypeDesc} {s b off : Nat} {g : Bool} {vs : List Value} (hop : o.op = .load T x) [i1 : TyI P T td s g] (hx : evR R x = some (.pointer (some ⟨b, off, none⟩))) [i2 : SrcI w0 H b off vs] (hv : rdv g vs s = some v) : Ev P w0 n d R H o v := e_load hop hx i2.src hv
theorem e_build' {ps : Array (Nat × Operand)} {pl : List (Nat × Nat)} {z cs : List Value} {qs : List (Nat × Value)} (hop : o.op = .build T ps) [i1 : TyB P T pl z] (hp : evp R ps.toList = some qs) (hf : fillL (pl[·]?) z qs = some cs) : Ev P w0 n d R H o (.agg cs.toArray) := e_build hop hp hf
end

section
variable {S : Pend} {P : Program} {w0 : World} {n : Nat} {d : List Deferred} {R0 : List (Nat × Value)} {H0 : List Ent} {Q : Exit → Act → World → Prop} {ops : Array Oper} {bs : List (List Bool)} {b : List Bool} {k : Nat} {o : Oper} {rest : List Oper} {T : List Rw} {t : Tmp} {Hk : Wits → List Ent} {x y : Operand} {v : Value}

/-- what an operation of the chain knows -/
abbrev Rk (R0 : List (Nat × Value)) (ops : Array Oper) (b : List Bool) (o : Oper) (T : List Rw) (G : Wits) : List (Nat × Value) := opsR (regsT (fltT b T) G ++ R0) (o.looksAt ops)
def CAt (S : Pend) (P : Program) (w0 : World) (n : Nat) (d : List Deferred) (ops : Array Oper) (R0 : List (Nat × Value)) (H0 : List Ent) (Q : Exit → Act → World → Prop) (b : List Bool) (bs : List (List Bool)) (k : Nat) (o : Oper) (rest : List Oper) (T : List Rw) (Hk : Wits → List Ent) : Prop :=
  (∀ G, entsT (fltT b T) G ++ H0 = Hk G) → S.free k = true → Chain S P w0 n d ops R0 H0 Q (b :: bs) k (o :: rest) T
theorem c_go (hk : S.free k = true) (h : ∃ Hk : Wits → List Ent, (∀ G, entsT (fltT b T) G ++ H0 = Hk G) ∧ CAt S P w0 n d ops R0 H0 Q b bs k o rest T Hk) : Chain S P w0 n d ops R0 H0 Q (b :: bs) k (o :: rest) T := by
  obtain ⟨Hk, h1, h2⟩ := h
  exact h2 h1 hk
theorem c_nil (h : ∀ G, U w0 n d (regsT T G ++ R0) (S.at k ++ (entsT T G ++ H0)) (Q .normal)) : Chain S P w0 n d ops R0 H0 Q [] k [] T := h
theorem c_tail (hb : ((b :: bs).all fun b => b.all id) = true) (h : ∀ G, U w0 n d (regsT T G ++ R0) (S.at k ++ (entsT T G ++ H0)) (wpList P ops Q (o :: rest))) : Chain S P w0 n d ops R0 H0 Q (b :: bs) k (o :: rest) T := .inr ⟨hb, h⟩

theorem c_row {f : Wits → Value × List Ent} (hl : Loc b k f) (hd : ∀ G, Grows P w0 n d (Rk R0 ops b o T G) (Hk G) ops o (fun v E => ∃ x, (v, E) = f (upW G k x))) (h : Chain S P w0 n d ops R0 H0 Q bs (k + 1) rest (⟨k, o.dst, f⟩ :: T)) : CAt S P w0 n d ops R0 H0 Q b bs k o rest T Hk :=
  fun hH hk => .inl ⟨f, hl, .inl ⟨hk, fun G => by rw [hH G]; exact hd G⟩, h⟩
/-- the store in the midst -/
theorem c_store {T1 : TypeId} {td : TypeDesc} {s bm off : Nat} {g : Bool} {cs cs' : List Value} (hop : o.op = .store T1 x y) [i1 : TyI P T1 td s g] (hw : ∀ G, want (Rk R0 ops b o T G) ops o = some true) (hd : o.dst = none) (hk : S.k = k) (h0 : S.e0 = [.blk bm cs]) (h1 : S.e1 = [.blk bm cs']) (hx : ∀ G, evR (Rk R0 ops b o T G) x = some (.pointer (some ⟨bm, off, none⟩))) (hy : ∀ G, evR (Rk R0 ops b o T G) y = some v)
    (hv : Nat.beq v.cells.toList.length s = true) (hv1 : v.cells.toList.all Value.oneCell' = true) (hl : Nat.ble (off + s) cs.length = true) (hc : put1 cs off v.cells.toList = cs') (h : Chain S P w0 n d ops R0 H0 Q bs (k + 1) rest (⟨k, none, fun _ => (undef, [])⟩ :: T)) : Chain S P w0 n d ops R0 H0 Q (b :: bs) k (o :: rest) T :=
  .inl ⟨fun _ => (undef, []), fun _ _ _ => rfl, .inr ⟨hk, hd, rfl, fun G F L a w q ho K hK => by
    rw [want_ok q (hw G), if_pos rfl]
    rw [h0] at ho
    rw [h1] at hK
    have hb : Blk w bm cs.toArray := ho.here (.blk bm cs) (by simp)
    have hs : v.cells.toList.length = s := Nat.eq_of_beq_eq_true hv
    have hlen := Nat.le_of_ble_eq_true hl
    have e1 := i1.siz w
    obtain ⟨g1, g2, g3, g4, g5, g6⟩ := heap_setCells bm v.cells.toList off w cs hb
    have hfoot : w0.heap.size ≤ bm := (ho.foot (.blk bm cs) (by simp) bm rfl).1
    have hrun : (Instr.storeAt T1 (.pointer (some ⟨bm, off, none⟩)) v).run P w = .ok () (w.setCells bm off v.cells.toList) := by
      have := run_storeCells_cells (P := P) bm off v.cells.toList 0 w (fun j hj => by have h9 : off + j < cs.length := (by omega); rw [hb.cell]; simp [h9]) (fun j hj => hb.frozen _) (fun u hu => List.all_eq_true.1 hv1 u hu)
      simp only [Nat.add_zero] at this
      have hsz : ¬ v.cells.size ≠ s := by simpa using hs
      unfold Instr.storeAt storeVar
      simp only [Sem.run_bind, Instr.sureAddr, Sem.run_pure, Result.andThen_ok, e1, Sem.run_ite, hsz, if_false, this]
    unfold Oper.wp execOp; rw [hop]
    simp only [Sem.run_bind, q.ev (hx G), q.ev (hy G), hrun, Result.andThen_ok, Sem.run_pure, Oper.upon_skip, hd]
    refine hK _ ?_ ?_
    · exact q.below.trans ⟨g2, g3, g4, by omega, fun k hk => g6 k (by omega)⟩
    · exact ho.turn (by omega) (fun k hk hn => g6 k hn) q.base (hc ▸ g1) (fun k hk => by
        cases hk
        exact ⟨.inl rfl, by rw [g5]; exact (ho.foot (.blk bm cs) (by simp) bm rfl).2⟩)⟩, by rw [hd]; exact h⟩
theorem loc_up {α : Type} {f : Wits → α} (hl : ∀ G G' : Wits, (∀ j, (j = k ∨ bitOf b k j = true) → G j = G' j) → f G = f G') (hn : ∀ G G' : Wits, (∀ j, (bitOf b k j = true) → G j = G' j) → f G = f G') (G : Wits) (x : Wit) : f (upW G k x) = f G :=
  hn _ _ (fun j hj => by
    have := bitOf_lt hj
    simp [upW]; omega)
/-- of earlier rows alone -/
abbrev LocB (b : List Bool) (k : Nat) {α : Type} (f : Wits → α) : Prop := ∀ G G' : Wits, (∀ j, bitOf b k j = true → G j = G' j) → f G = f G'
theorem LocB.up {α : Type} {f : Wits → α} (h : LocB b k f) (G : Wits) (x : Wit) : f (upW G k x) = f G :=
  h _ _ (fun j hj => by have := bitOf_lt hj; simp [upW]; omega)
theorem LocB.loc {α : Type} {f : Wits → α} (h : LocB b k f) (G G' : Wits) (hG : ∀ j, (j = k ∨ bitOf b k j = true) → G j = G' j) : f G = f G' := h G G' (fun j hj => hG j (.inr hj))

theorem c_val (val : Wits → Value) (he : ∀ G, Ev P w0 n d (Rk R0 ops b o T G) (Hk G) o (val G)) (hw : ∀ G, want (Rk R0 ops b o T G) ops o = some true) (hd : o.dst = some t) (hl : LocB b k val) (h : Chain S P w0 n d ops R0 H0 Q bs (k + 1) rest (⟨k, some t, fun G => (val G, [])⟩ :: T)) : CAt S P w0 n d ops R0 H0 Q b bs k o rest T Hk := by
  refine c_row (f := fun G => (val G, [])) (fun G G' hG => by simp only [hl.loc G G' hG]) (fun G a w q K hK => ?_) (by rw [hd]; exact h)
  rw [want_ok q (hw G), if_pos rfl]
  unfold Oper.wp
  rw [he G a w q, Oper.upon_value]
  exact hK _ [] _ ⟨⟨0, none, 0⟩, by simp only [hl.up]⟩ (Below.refl _ _) (Own.nil _ _)
theorem c_not_wanted (hw : ∀ G, want (Rk R0 ops b o T G) ops o = some false) (hd : o.dst = some t) (h : Chain S P w0 n d ops R0 H0 Q bs (k + 1) rest (⟨k, some t, fun _ => (undef, [])⟩ :: T)) : CAt S P w0 n d ops R0 H0 Q b bs k o rest T Hk := by
  refine c_row (f := fun _ => (undef, [])) (fun _ _ _ => rfl) (fun G a w q K hK => ?_) (by rw [hd]; exact h)
  rw [want_ok q (hw G)]
  simp only [Bool.false_eq_true, if_false]
  exact hK _ [] _ ⟨⟨0, none, 0⟩, rfl⟩ (Below.refl _ _) (Own.nil _ _)
theorem c_cmp {T1 T2 : TypeId} {c : BinOp} {kd : IntKind} {i j : Int} (hop : o.op = .binOp c T1 x y T2) (hc : isCmp c = true) (hw : ∀ G, want (Rk R0 ops b o T G) ops o = some true) (hd : o.dst = some t) (hx : ∀ G, evR (Rk R0 ops b o T G) x = some (.int kd i)) (hy : ∀ G, evR (Rk R0 ops b o T G) y = some (.int kd j))
    (h1 : cmpP c i j → Chain S P w0 n d ops R0 H0 Q bs (k + 1) rest (⟨k, some t, fun _ => (.bool true, [])⟩ :: T)) (h2 : ¬ cmpP c i j → Chain S P w0 n d ops R0 H0 Q bs (k + 1) rest (⟨k, some t, fun _ => (.bool false, [])⟩ :: T)) : CAt S P w0 n d ops R0 H0 Q b bs k o rest T Hk := by
  by_cases hp : cmpP c i j
  · exact c_val (fun _ => .bool true) (fun G a w q => run_cmp_t hc hop (q.ev (hx G)) (q.ev (hy G)) hp) hw hd (fun _ _ _ => rfl) (h1 hp)
  · exact c_val (fun _ => .bool false) (fun G a w q => run_cmp_f hc hop (q.ev (hx G)) (q.ev (hy G)) hp) hw hd (fun _ _ _ => rfl) (h2 hp)
theorem c_eql {T1 T2 : TypeId} {c : BinOp} {bb : Bool} {v' : Value} (hop : o.op = .binOp c T1 x y T2) (hw : ∀ G, want (Rk R0 ops b o T G) ops o = some true) (hd : o.dst = some t) (hx : ∀ G, evR (Rk R0 ops b o T G) x = some v) (hy : ∀ G, evR (Rk R0 ops b o T G) y = some v')
    (hg : ∀ w, (eqGuard c T1 x y v v').run P w = .ok () w) (hv : ∀ w, (binOp c T1 v v').run P w = .ok (.bool bb) w)
    (h1 : bb = true → Chain S P w0 n d ops R0 H0 Q bs (k + 1) rest (⟨k, some t, fun _ => (.bool true, [])⟩ :: T)) (h2 : bb = false → Chain S P w0 n d ops R0 H0 Q bs (k + 1) rest (⟨k, some t, fun _ => (.bool false, [])⟩ :: T)) : CAt S P w0 n d ops R0 H0 Q b bs k o rest T Hk := by
  have he : ∀ G, Ev P w0 n d (Rk R0 ops b o T G) (Hk G) o (.bool bb) := fun G a w q => by
    unfold execOp; rw [hop]
    simp only [Sem.run_bind, q.ev (hx G), q.ev (hy G), hg, hv, Result.andThen_ok, Sem.run_pure]
  cases bb
  · exact c_val (fun _ => .bool false) he hw hd (fun _ _ _ => rfl) (h2 rfl)
  · exact c_val (fun _ => .bool true) he hw hd (fun _ _ _ => rfl) (h1 rfl)
/-- a call that returns a value -/
theorem c_gives {f : FuncId} {fx : Operand} {xs : Array Operand} {ts : Array TypeId} {vs : Wits → List Value} {cap : Array Value} (val : Wits → Value) (hop : o.op = .call ⟨.value fx, xs, ts⟩) (hw : ∀ G, want (Rk R0 ops b o T G) ops o = some true) (hd : o.dst = some t) (hf : ∀ G, evR (Rk R0 ops b o T G) fx = some (.func (.func f) #[] cap)) (hx : ∀ G, evs (Rk R0 ops b o T G) xs.toList = some (vs G)) [ci : CallI P f]
    (hc : ∀ G a w, Kn w0 n d (Rk R0 ops b o T G) (Hk G) a w → Gv P f (vs G ++ cap.toList) w (val G)) (hl : LocB b k val) (h : Chain S P w0 n d ops R0 H0 Q bs (k + 1) rest (⟨k, some t, fun G => (val G, [])⟩ :: T)) : CAt S P w0 n d ops R0 H0 Q b bs k o rest T Hk := by
  refine c_row (f := fun G => (val G, [])) (fun G G' hG => by simp only [hl.loc G G' hG]) (fun G a w q K hK => ?_) (by rw [hd]; exact h)
  rw [want_ok q (hw G), if_pos rfl]
  unfold Oper.wp execOp; rw [hop]
  have e1 : xs.map a.eval = (vs G).toArray := by apply Array.ext'; simpa using q.evs (hx G)
  have e2 : (vs G).toArray ++ cap = (vs G ++ cap.toList).toArray := by apply Array.ext'; simp
  simp only [resolve, q.ev (hf G), e1, Deferred.ofValue, Sem.run_bind, Sem.run_pure, Result.andThen_ok, invoke, Array.empty_append, e2, ci.ent, Oper.upon_enter]
  refine Calls.mono (hc G a w q).ret.calls ?_
  rintro e w' ⟨z, hp, rfl, hb, hE⟩
  exact hK _ [] _ ⟨⟨0, none, 0⟩, by simp only [hl.up]⟩ hb (Own.nil _ _)
theorem c_givesB {f : FuncId} {fx : Operand} {xs : Array Operand} {ts : Array TypeId} {vs : Wits → List Value} {cap : Array Value} {bb : Bool} (hop : o.op = .call ⟨.value fx, xs, ts⟩) (hw : ∀ G, want (Rk R0 ops b o T G) ops o = some true) (hd : o.dst = some t) (hf : ∀ G, evR (Rk R0 ops b o T G) fx = some (.func (.func f) #[] cap)) (hx : ∀ G, evs (Rk R0 ops b o T G) xs.toList = some (vs G)) [ci : CallI P f]
    (hc : ∀ G a w, Kn w0 n d (Rk R0 ops b o T G) (Hk G) a w → Gv P f (vs G ++ cap.toList) w (.bool bb))
    (h1 : bb = true → Chain S P w0 n d ops R0 H0 Q bs (k + 1) rest (⟨k, some t, fun _ => (.bool true, [])⟩ :: T)) (h2 : bb = false → Chain S P w0 n d ops R0 H0 Q bs (k + 1) rest (⟨k, some t, fun _ => (.bool false, [])⟩ :: T)) : CAt S P w0 n d ops R0 H0 Q b bs k o rest T Hk := by
  cases bb
  · exact c_gives (fun _ => .bool false) hop hw hd hf hx hc (fun _ _ _ => rfl) (h2 rfl)
  · exact c_gives (fun _ => .bool true) hop hw hd hf hx hc (fun _ _ _ => rfl) (h1 rfl)
/-- a call that returns a new slice, among other things -/
theorem c_newsl {α : Type} {enc : α → List Value} {kk : Nat} {zs : List α} {V : Value → Value} {f : FuncId} {fx : Operand} {xs : Array Operand} {ts : Array TypeId} {vs : Wits → List Value} {cap : Array Value} (hop : o.op = .call ⟨.value fx, xs, ts⟩) (hw : ∀ G, want (Rk R0 ops b o T G) ops o = some true) (hd : o.dst = some t) (hf : ∀ G, evR (Rk R0 ops b o T G) fx = some (.func (.func f) #[] cap)) (hx : ∀ G, evs (Rk R0 ops b o T G) xs.toList = some (vs G)) [ci : CallI P f]
    (hc : ∀ G a w, Kn w0 n d (Rk R0 ops b o T G) (Hk G) a w → NewSl enc kk zs V P f (vs G ++ cap.toList) w) (h : Chain S P w0 n d ops R0 H0 Q bs (k + 1) rest (⟨k, some t, fun G => (V (.slice (G k).A zs.length (G k).m), [.sl enc kk (G k).A zs])⟩ :: T)) : CAt S P w0 n d ops R0 H0 Q b bs k o rest T Hk := by
  refine c_row (f := fun G => (V (.slice (G k).A zs.length (G k).m), [.sl enc kk (G k).A zs])) (fun G G' hG => by simp only [hG k (.inl rfl)]) (fun G a w q K hK => ?_) (by rw [hd]; exact h)
  rw [want_ok q (hw G), if_pos rfl]
  unfold Oper.wp execOp; rw [hop]
  have e1 : xs.map a.eval = (vs G).toArray := by apply Array.ext'; simpa using q.evs (hx G)
  have e2 : (vs G).toArray ++ cap = (vs G ++ cap.toList).toArray := by apply Array.ext'; simp
  simp only [resolve, q.ev (hf G), e1, Deferred.ofValue, Sem.run_bind, Sem.run_pure, Result.andThen_ok, invoke, Array.empty_append, e2, ci.ent, Oper.upon_enter]
  refine Calls.mono (hc G a w q).ret.calls ?_
  rintro e w' ⟨⟨A, m⟩, hp, rfl, hb, hE⟩
  exact hK _ _ _ ⟨⟨0, A, m⟩, by simp [upW]⟩ hb hE
theorem own_new (w : World) (cs : List Value) (ty : TypeId) : Own w.heap.size (w.alloc (.cells cs.toArray ty)) [.blk w.heap.size cs] :=
  ⟨fun e he => by simp only [List.mem_singleton] at he; subst he; exact Blk.new _ _ _, fun e he b hb => by simp only [List.mem_singleton] at he; subst he; cases hb; simp, by simp⟩
theorem c_alloc {Ty : TypeId} {z : List Value} (hop : o.op = .alloc Ty) [i1 : TyZ P Ty z] (hw : ∀ G, want (Rk R0 ops b o T G) ops o = some true) (hd : o.dst = some t) (h : Chain S P w0 n d ops R0 H0 Q bs (k + 1) rest (⟨k, some t, fun G => (.pointer (some ⟨(G k).g, 0, none⟩), [.blk (G k).g z])⟩ :: T)) : CAt S P w0 n d ops R0 H0 Q b bs k o rest T Hk := by
  refine c_row (f := fun G => (.pointer (some ⟨(G k).g, 0, none⟩), [.blk (G k).g z])) (fun G G' hG => by simp only [hG k (.inl rfl)]) (fun G a w q K hK => ?_) (by rw [hd]; exact h)
  rw [want_ok q (hw G), if_pos rfl]
  obtain ⟨v, e1, e2⟩ := i1.zero w
  unfold Oper.wp execOp; rw [hop]
  simp only [Sem.run_bind, Instr.alloc, e1, Result.andThen_ok, newVar, newRow, run_newObj, Sem.run_pure, e2, Oper.upon_value]
  exact hK _ _ _ ⟨⟨w.heap.size, none, 0⟩, by simp only [upW, if_true]⟩ (below_alloc w (.cells z.toArray Ty)) (own_new w z Ty)
theorem c_box {Ty : TypeId} {val : Wits → Value} {cs : Wits → List Value} (hop : o.op = .box Ty x) (hw : ∀ G, want (Rk R0 ops b o T G) ops o = some true) (hd : o.dst = some t) (hx : ∀ G, evR (Rk R0 ops b o T G) x = some (val G)) (hc : ∀ G, (val G).cells.toList = cs G) (hl : LocB b k cs) (h : Chain S P w0 n d ops R0 H0 Q bs (k + 1) rest (⟨k, some t, fun G => (.pointer (some ⟨(G k).g, 0, none⟩), [.blk (G k).g (cs G)])⟩ :: T)) : CAt S P w0 n d ops R0 H0 Q b bs k o rest T Hk := by
  refine c_row (f := fun G => (.pointer (some ⟨(G k).g, 0, none⟩), [.blk (G k).g (cs G)])) (fun G G' hG => by simp only [hG k (.inl rfl), hl.loc G G' hG]) (fun G a w q K hK => ?_) (by rw [hd]; exact h)
  rw [want_ok q (hw G), if_pos rfl]
  have e2 : (val G).cells = (cs G).toArray := by rw [← hc G]
  unfold Oper.wp execOp; rw [hop]
  simp only [Sem.run_bind, q.ev (hx G), Instr.box, Result.andThen_ok, newVar, newRow, run_newObj, Sem.run_pure, e2, Oper.upon_value]
  exact hK _ _ _ ⟨⟨w.heap.size, none, 0⟩, by simp only [upW, if_true, hl.up]⟩ (below_alloc w (.cells (cs G).toArray Ty)) (own_new w (cs G) Ty)
theorem c_buildSlice {T1 e : TypeId} {len s s' : Nat} {g g' : Bool} {td : TypeDesc} {ps : Array (Nat × Operand)} {z : List Value} {qs : Wits → List (Nat × Value)} {cs : Wits → List Value} (hop : o.op = .buildSlice T1 len ps) [i1 : TyI P T1 (.slice e) s g] [i2 : TyI P e td s' g'] [i3 : TyZ P e z] (hw : ∀ G, want (Rk R0 ops b o T G) ops o = some true) (hd : o.dst = some t) (hp : ∀ G, evp (Rk R0 ops b o T G) ps.toList = some (qs G))
    (hz : (Nat.beq z.length s' && Nat.blt 0 s' && Nat.ble (len * s') 16777216) = true) (hf : ∀ G, fillL (fun i => some (i * s', s')) (zerosL z len) (qs G) = some (cs G)) (hl : LocB b k cs) (h : Chain S P w0 n d ops R0 H0 Q bs (k + 1) rest (⟨k, some t, fun G => (.slice (some ⟨(G k).g, 0, none⟩) len len, [.blk (G k).g (cs G)])⟩ :: T)) : CAt S P w0 n d ops R0 H0 Q b bs k o rest T Hk := by
  refine c_row (f := fun G => (.slice (some ⟨(G k).g, 0, none⟩) len len, [.blk (G k).g (cs G)])) (fun G G' hG => by simp only [hG k (.inl rfl), hl.loc G G' hG]) (fun G a w q K hK => ?_) (by rw [hd]; exact h)
  rw [want_ok q (hw G), if_pos rfl]
  simp only [Bool.and_eq_true] at hz
  have := run_buildSlice_of (P := P) (w := w) (o := o) (a := a) hop i1 i2 i3 (q.evp (hp G)) hz.1.1 hz.1.2 hz.2 (hf G)
  unfold Oper.wp execOp; rw [hop]
  simp only [Sem.run_bind, this, Result.andThen_ok, Sem.run_pure, Oper.upon_value]
  exact hK _ _ _ ⟨⟨w.heap.size, none, 0⟩, by simp only [upW, if_true, hl.up]⟩ (below_alloc w (.cells (cs G).toArray e)) (own_new w (cs G) e)
end
end Go.Proofs.Ytekjkaoibcfgfaa
