/- The walk's rules, one for each kind of code and of operation. -/
import Derived.Test.YtekjkaoibcfgfaaU0
import Derived.IntWalk
namespace Go.Proofs.Ytekjkaoibcfgfaa
open Go.RowKit
set_option linter.unusedSimpArgs false
set_option linter.unusedVariables false

class TyI (P : Program) (T : TypeId) (d : outParam TypeDesc) (s : outParam Nat) (g : outParam Bool) : Prop where
  und : P.underlying T = some d
  siz : ∀ w, (Go.sizeOf T).run P w = .ok s w
  agg : ∀ w, (Go.isAgg T).run P w = .ok g w
class TyZ (P : Program) (T : TypeId) (z : outParam (List Value)) : Prop where
  zero : ∀ w, ∃ v, (zeroValue T).run P w = .ok v w ∧ v.cells = z.toArray
/-- a struct's places: offset and size of each field -/
class TyB (P : Program) (T : TypeId) (ps : outParam (List (Nat × Nat))) (z : outParam (List Value)) : Prop where
  bui : ∀ parts : List (Nat × Value), P.built T parts = Instr.fill (ps.toArray[·]?) z.toArray parts
/-- a field's place -/
class FoI (P : Program) (T : TypeId) (m : Nat) (off : outParam Nat) : Prop where
  at_ : ∀ (b o : Nat) (w : World), (Instr.fieldAt T (.pointer (some ⟨b, o, none⟩)) m).run P w = .ok (.pointer (some ⟨b, o + off, none⟩)) w
class CallI (P : Program) (f : FuncId) : Prop where
  ent : ∀ (args : Array Value) (w : World), (callFunc f args).run P w = .ok (.enter f args) w

section
variable {P : Program} {w0 : World} {n : Nat} {d : List Deferred} {R : List (Nat × Value)} {H H' : List Ent} {Q : Exit → Act → World → Prop} {ops : Array Oper} {rest : List Oper} {o : Oper} {t : Tmp} {x y : Operand} {v u : Value}

theorem u_seq {x y : Code} (h : U w0 n d R H (x.wp P (Exit.then (y.wp P Q) Q))) : U w0 n d R H ((Code.seq x y).wp P Q) := fun a w k => wp_seq (h a w k)
theorem u_mid {x y : Code} (M : Act → World → Prop) (h : U w0 n d R H (x.wp P (Exit.then M Q))) (h2 : ∀ a w, M a w → y.wp P Q a w) : U w0 n d R H ((Code.seq x y).wp P Q) :=
  fun a w k => wp_seq (Code.wp_mono (fun e a w q => by cases e <;> first | exact h2 _ _ q | exact q) (h a w k))
theorem u_cond_t {x y : Code} {c : Operand} (hc : evR R c = some (.bool true)) (h : U w0 n d R H (x.wp P Q)) : U w0 n d R H ((Code.cond c x y).wp P Q) := fun a w k => wp_cond_true (k.ev hc) (h a w k)
theorem u_cond_f {x y : Code} {c : Operand} (hc : evR R c = some (.bool false)) (h : U w0 n d R H (y.wp P Q)) : U w0 n d R H ((Code.cond c x y).wp P Q) := fun a w k => wp_cond_false (k.ev hc) (h a w k)
theorem u_block {id : Nat} {c : Code} (h : U w0 n d R H (c.wp P (Exit.inBlock id Q))) : U w0 n d R H ((Code.block id c).wp P Q) := fun a w k => wp_block (h a w k)
theorem u_exit {id : Nat} (h : U w0 n d R H (Q (.exit id))) : U w0 n d R H ((Code.exit id).wp P Q) := fun a w k => wp_exit (h a w k)
theorem u_ret (h : U w0 n d R H (Q .ret)) : U w0 n d R H (Code.ret.wp P Q) := fun a w k => wp_ret (h a w k)
theorem u_skip (h : U w0 n d R H (Q .normal)) : U w0 n d R H (Code.skip.wp P Q) := fun a w k => wp_skip (h a w k)
theorem u_label {l : Nat} (h : U w0 n d R H (Q .normal)) : U w0 n d R H ((Code.label l).wp P Q) := fun a w k => wp_label (h a w k)
theorem u_then_n {K : Act → World → Prop} (h : U w0 n d R H K) : U w0 n d R H (Exit.then K Q .normal) := h
theorem u_then_e {K : Act → World → Prop} {id : Nat} (h : U w0 n d R H (Q (.exit id))) : U w0 n d R H (Exit.then K Q (.exit id)) := h
theorem u_then_r {K : Act → World → Prop} (h : U w0 n d R H (Q .ret)) : U w0 n d R H (Exit.then K Q .ret) := h
theorem u_in_n {id : Nat} (h : U w0 n d R H (Q .normal)) : U w0 n d R H (Exit.inBlock id Q .normal) := h
theorem u_in_r {id : Nat} (h : U w0 n d R H (Q .ret)) : U w0 n d R H (Exit.inBlock id Q .ret) := h
theorem u_in_same {id : Nat} (h : U w0 n d R H (Q .normal)) : U w0 n d R H (Exit.inBlock id Q (.exit id)) := fun a w k => by simp only [Exit.inBlock, if_true]; exact h a w k
theorem u_in_other {id id' : Nat} (hne : Nat.beq id' id = false) (h : U w0 n d R H (Q (.exit id'))) : U w0 n d R H (Exit.inBlock id Q (.exit id')) := fun a w k => by
  have : id' ≠ id := by rintro rfl; rw [Nat.beq_refl] at hne; cases hne
  simp only [Exit.inBlock, this, if_false]; exact h a w k
theorem u_region {id : Nat} {l : List Oper} (h : U w0 n d R H (wpList P l.toArray Q l)) : U w0 n d R H ((Code.region id l.toArray false).wp P Q) := fun a w k => wp_region_lit (h a w k)
theorem u_nil (h : U w0 n d R H (Q .normal)) : U w0 n d R H (wpList P ops Q []) := fun a w k => wpList_nil (h a w k)

theorem isOps (h : U w0 n d R H (wpList P ops Q (o :: rest))) : U w0 n d R H (wpList P ops Q (o :: rest)) := h
/-- is an operation wanted? -/
def want (R : List (Nat × Value)) (ops : Array Oper) (o : Oper) : Option Bool :=
  match o.guard with
  | none => some true
  | some (j, b) => match (ops[j]?).bind (·.dst) with
    | some t => match lk R t with | some v => (match v with | .bool c => some (c == b) | _ => some false) | none => none
    | none => none
theorem want_ok {a : Act} {w : World} {b : Bool} (h : Kn w0 n d R H a w) (hw : want R ops o = some b) : Region.wanted o (yielded ops a.tmps) = b := by
  unfold want at hw
  unfold Region.wanted
  cases hg : o.guard with
  | none => rw [hg] at hw; simpa using hw
  | some jb =>
    obtain ⟨j, c⟩ := jb
    rw [hg] at hw
    simp only at hw ⊢
    cases hd : (ops[j]?).bind (·.dst) with
    | none => rw [hd] at hw; simp at hw
    | some t =>
      rw [hd] at hw
      simp only at hw
      cases hl : lk R t with
      | none => rw [hl] at hw; simp at hw
      | some x =>
        rw [hl] at hw
        simp only at hw
        have hr := h.regs t _ hl
        unfold yielded
        rw [hd]
        simp only [Option.bind_some]
        rw [Array.getD_eq_getD_getElem?] at hr
        cases ht : a.tmps[t]? with
        | none =>
          rw [ht] at hr
          simp only [Option.getD_none, undef] at hr
          subst hr
          simpa using hw
        | some y =>
          rw [ht] at hr
          simp only [Option.getD_some] at hr
          subst hr
          cases y <;> simp at hw <;> simp [hw]

theorem u_not_wanted (hw : want R ops o = some false) (hd : o.dst = some t) (ht : Nat.blt t n = true) (h : U w0 n d ((t, undef) :: R) H (wpList P ops Q rest)) : U w0 n d R H (wpList P ops Q (o :: rest)) := fun a w k =>
  wpList_step fun K hK => by
    rw [want_ok k hw, hd]
    simp only [Bool.false_eq_true, if_false]
    exact hK _ _ (h _ _ (k.put ht))
theorem u_not_wanted0 (hw : want R ops o = some false) (hd : o.dst = none) (h : U w0 n d R H (wpList P ops Q rest)) : U w0 n d R H (wpList P ops Q (o :: rest)) := fun a w k =>
  wpList_step fun K hK => by
    rw [want_ok k hw, hd]
    simp only [Bool.false_eq_true, if_false]
    exact hK _ _ (h _ _ k)

/-- an operation that is done -/
theorem u_op (hw : want R ops o = some true) (h : ∀ a w, Kn w0 n d R H a w → ∀ K : Act → World → Prop, (∀ a w, wpList P ops Q rest a w → K a w) → o.wp P a w K Q) : U w0 n d R H (wpList P ops Q (o :: rest)) := fun a w k =>
  wpList_step fun K hK => by
    rw [want_ok k hw, if_pos rfl]
    exact h a w k K hK
theorem u_val (hw : want R ops o = some true) (hd : o.dst = some t) (ht : Nat.blt t n = true) (he : ∀ a w, Kn w0 n d R H a w → (execOp a.eval o).run P w = .ok (.value v) w)
    (h : U w0 n d ((t, v) :: R) H (wpList P ops Q rest)) : U w0 n d R H (wpList P ops Q (o :: rest)) :=
  u_op hw fun a w k K hK => by
    unfold Oper.wp
    rw [he a w k, Oper.upon_value, hd]
    exact hK _ _ (h _ _ (k.put ht))

theorem u_move (hop : o.op = .move x) (hw : want R ops o = some true) (hd : o.dst = some t) (ht : Nat.blt t n = true) (hx : evR R x = some v) (h : U w0 n d ((t, v) :: R) H (wpList P ops Q rest)) : U w0 n d R H (wpList P ops Q (o :: rest)) :=
  u_val hw hd ht (fun a w k => by unfold execOp; rw [hop]; simp only [Sem.run_pure, k.ev hx]) h
theorem u_assign (hop : o.op = .assign x) (hw : want R ops o = some true) (hd : o.dst = some t) (ht : Nat.blt t n = true) (hx : evR R x = some v) (h : U w0 n d ((t, v) :: R) H (wpList P ops Q rest)) : U w0 n d R H (wpList P ops Q (o :: rest)) :=
  u_val hw hd ht (fun a w k => by unfold execOp; rw [hop]; simp only [Sem.run_pure, k.ev hx]) h
theorem u_pick {c : Operand} {b : Bool} (hop : o.op = .pick c x y) (hw : want R ops o = some true) (hd : o.dst = some t) (ht : Nat.blt t n = true) (hc : evR R c = some (.bool b)) (hx : evR R (cond b x y) = some v) (h : U w0 n d ((t, v) :: R) H (wpList P ops Q rest)) : U w0 n d R H (wpList P ops Q (o :: rest)) :=
  u_val hw hd ht (fun a w k => by
    unfold execOp; rw [hop]
    simp only [Sem.run_bind, k.ev hc, asBool, Sem.run_pure, Result.andThen_ok]
    have := k.ev hx
    cases b <;> simp_all) h
theorem u_extract {i : Nat} {vs : List Value} (hop : o.op = .extract x i) (hw : want R ops o = some true) (hd : o.dst = some t) (ht : Nat.blt t n = true) (hx : evR R x = some (.tuple vs.toArray)) (hi : vs[i]? = some v) (h : U w0 n d ((t, v) :: R) H (wpList P ops Q rest)) : U w0 n d R H (wpList P ops Q (o :: rest)) :=
  u_val hw hd ht (fun a w k => by unfold execOp; rw [hop]; simp [k.ev hx, Instr.extract, hi]) h
theorem u_not {b : Bool} {T : TypeId} (hop : o.op = .unOp .not T x) (hw : want R ops o = some true) (hd : o.dst = some t) (ht : Nat.blt t n = true) (hx : evR R x = some (.bool b)) (h : U w0 n d ((t, .bool (not b)) :: R) H (wpList P ops Q rest)) : U w0 n d R H (wpList P ops Q (o :: rest)) :=
  u_val hw hd ht (fun a w k => by unfold execOp; rw [hop]; simp [k.ev hx, Op.unary]) h
theorem u_neg {T : TypeId} {k : IntKind} {i : Int} (hop : o.op = .unOp .neg T x) (hw : want R ops o = some true) (hd : o.dst = some t) (ht : Nat.blt t n = true) (hx : evR R x = some (.int k i)) (hr : k.wrap (0 - i) = -i) (h : U w0 n d ((t, .int k (-i)) :: R) H (wpList P ops Q rest)) : U w0 n d R H (wpList P ops Q (o :: rest)) :=
  u_val hw hd ht (fun a w q => by unfold execOp; rw [hop]; simp only [Sem.run_bind, q.ev hx, Op.unary, Op.intArith, Sem.run_pure, Result.andThen_ok, hr]) h

section
variable {T T' : TypeId} {k : IntKind} {i j : Int}
theorem u_add (hop : o.op = .binOp .add T x y T') (hw : want R ops o = some true) (hd : o.dst = some t) (ht : Nat.blt t n = true) (hx : evR R x = some (.int k i)) (hy : evR R y = some (.int k j)) (hr : k.wrap (i + j) = i + j) (h : U w0 n d ((t, .int k (i + j)) :: R) H (wpList P ops Q rest)) : U w0 n d R H (wpList P ops Q (o :: rest)) :=
  u_val hw hd ht (fun a w q => by unfold execOp; rw [hop]; simp [q.ev hx, q.ev hy, eqGuard, binOp, Op.intArith, hr]) h
theorem u_add1 {m : Nat} (hop : o.op = .binOp .add T x y T') (hw : want R ops o = some true) (hd : o.dst = some t) (ht : Nat.blt t n = true) (hx : evR R x = some (.int .i64 (m : Int))) (hy : evR R y = some (.int .i64 1)) (hr : m < 9223372036854775807) (h : U w0 n d ((t, .int .i64 ((m + 1 : Nat) : Int)) :: R) H (wpList P ops Q rest)) : U w0 n d R H (wpList P ops Q (o :: rest)) :=
  u_val hw hd ht (fun a w q => by
    unfold execOp; rw [hop]
    have := IntWalk.i64_in ((m : Int) + 1) (by omega)
    simp [q.ev hx, q.ev hy, eqGuard, binOp, Op.intArith, this]) h
theorem u_sub (hop : o.op = .binOp .sub T x y T') (hw : want R ops o = some true) (hd : o.dst = some t) (ht : Nat.blt t n = true) (hx : evR R x = some (.int k i)) (hy : evR R y = some (.int k j)) (hr : k.wrap (i - j) = i - j) (h : U w0 n d ((t, .int k (i - j)) :: R) H (wpList P ops Q rest)) : U w0 n d R H (wpList P ops Q (o :: rest)) :=
  u_val hw hd ht (fun a w q => by unfold execOp; rw [hop]; simp [q.ev hx, q.ev hy, eqGuard, binOp, Op.intArith, hr]) h
theorem u_mul (hop : o.op = .binOp .mul T x y T') (hw : want R ops o = some true) (hd : o.dst = some t) (ht : Nat.blt t n = true) (hx : evR R x = some (.int k i)) (hy : evR R y = some (.int k j)) (hr : k.wrap (i * j) = i * j) (h : U w0 n d ((t, .int k (i * j)) :: R) H (wpList P ops Q rest)) : U w0 n d R H (wpList P ops Q (o :: rest)) :=
  u_val hw hd ht (fun a w q => by unfold execOp; rw [hop]; simp [q.ev hx, q.ev hy, eqGuard, binOp, Op.intArith, hr]) h
theorem u_quo (hop : o.op = .binOp .quo T x y T') (hw : want R ops o = some true) (hd : o.dst = some t) (ht : Nat.blt t n = true) (hx : evR R x = some (.int k i)) (hy : evR R y = some (.int k j)) (h0 : 0 ≤ i) (h1 : 0 < j) (hr : k.wrap (i / j) = i / j) (h : U w0 n d ((t, .int k (i / j)) :: R) H (wpList P ops Q rest)) : U w0 n d R H (wpList P ops Q (o :: rest)) :=
  u_val hw hd ht (fun a w q => by
    unfold execOp; rw [hop]
    have h2 : ¬ j = 0 := by omega
    simp [q.ev hx, q.ev hy, eqGuard, binOp, Op.intDiv, h2, Int.tdiv_eq_ediv_of_nonneg h0, hr]) h
theorem u_rem (hop : o.op = .binOp .rem T x y T') (hw : want R ops o = some true) (hd : o.dst = some t) (ht : Nat.blt t n = true) (hx : evR R x = some (.int k i)) (hy : evR R y = some (.int k j)) (h0 : 0 ≤ i) (h1 : 0 < j) (h : U w0 n d ((t, .int k (i % j)) :: R) H (wpList P ops Q rest)) : U w0 n d R H (wpList P ops Q (o :: rest)) :=
  u_val hw hd ht (fun a w q => by
    unfold execOp; rw [hop]
    have h2 : ¬ j = 0 := by omega
    simp [q.ev hx, q.ev hy, eqGuard, binOp, Op.intDiv, h2, Int.tmod_eq_emod_of_nonneg h0]) h

def isCmp : BinOp → Bool
  | .lss | .leq | .gtr | .geq | .eql | .neq => true
  | _ => false
def cmpP : BinOp → Int → Int → Prop
  | .lss, i, j => i < j
  | .leq, i, j => i ≤ j
  | .gtr, i, j => j < i
  | .geq, i, j => j ≤ i
  | .eql, i, j => i = j
  | .neq, i, j => ¬ i = j
  | _, _, _ => False
theorem run_cmp_t {c : BinOp} (hc : isCmp c = true) {a : Act} {w : World} (hop : o.op = .binOp c T x y T') (hx : a.eval x = .int k i) (hy : a.eval y = .int k j) (hp : cmpP c i j) : (execOp a.eval o).run P w = .ok (.value (.bool true)) w := by
  unfold execOp; rw [hop]
  cases c <;> simp only [isCmp, Bool.false_eq_true] at hc <;> simp only [cmpP] at hp <;> simp [hx, hy, eqGuard, binOp, Op.intCmp] <;> omega
theorem run_cmp_f {c : BinOp} (hc : isCmp c = true) {a : Act} {w : World} (hop : o.op = .binOp c T x y T') (hx : a.eval x = .int k i) (hy : a.eval y = .int k j) (hp : ¬ cmpP c i j) : (execOp a.eval o).run P w = .ok (.value (.bool false)) w := by
  unfold execOp; rw [hop]
  cases c <;> simp only [isCmp, Bool.false_eq_true] at hc <;> simp only [cmpP] at hp <;> simp [hx, hy, eqGuard, binOp, Op.intCmp] <;> omega
theorem u_cmp {c : BinOp} (hop : o.op = .binOp c T x y T') (hc : isCmp c = true) (hw : want R ops o = some true) (hd : o.dst = some t) (ht : Nat.blt t n = true) (hx : evR R x = some (.int k i)) (hy : evR R y = some (.int k j))
    (h1 : cmpP c i j → U w0 n d ((t, .bool true) :: R) H (wpList P ops Q rest)) (h2 : ¬ cmpP c i j → U w0 n d ((t, .bool false) :: R) H (wpList P ops Q rest)) : U w0 n d R H (wpList P ops Q (o :: rest)) := by
  by_cases hp : cmpP c i j
  · exact u_val hw hd ht (fun a w q => run_cmp_t hc hop (q.ev hx) (q.ev hy) hp) (h1 hp)
  · exact u_val hw hd ht (fun a w q => run_cmp_f hc hop (q.ev hx) (q.ev hy) hp) (h2 hp)
/-- two values compared, of whatever type -/
theorem u_eql {b : Bool} {v' : Value} {c : BinOp} (hop : o.op = .binOp c T x y T') (hw : want R ops o = some true) (hd : o.dst = some t) (ht : Nat.blt t n = true) (hx : evR R x = some v) (hy : evR R y = some v')
    (hg : ∀ w, (eqGuard c T x y v v').run P w = .ok () w) (hv : ∀ w, (binOp c T v v').run P w = .ok (.bool b) w)
    (h1 : b = true → U w0 n d ((t, .bool true) :: R) H (wpList P ops Q rest)) (h2 : b = false → U w0 n d ((t, .bool false) :: R) H (wpList P ops Q rest)) : U w0 n d R H (wpList P ops Q (o :: rest)) := by
  have he : ∀ a w, Kn w0 n d R H a w → (execOp a.eval o).run P w = .ok (.value (.bool b)) w := fun a w q => by
    unfold execOp; rw [hop]
    simp only [Sem.run_bind, q.ev hx, q.ev hy, hg, hv, Result.andThen_ok, Sem.run_pure]
  cases b
  · exact u_val hw hd ht he (h2 rfl)
  · exact u_val hw hd ht he (h1 rfl)
theorem u_convert {T1 T2 : TypeId} {d1 : TypeDesc} {s1 s2 : Nat} {g1 g2 : Bool} {k' : IntKind} (hop : o.op = .convert T1 T2 x) [i1 : TyI P T1 d1 s1 g1] [i2 : TyI P T2 (.int k') s2 g2] (hw : want R ops o = some true) (hd : o.dst = some t) (ht : Nat.blt t n = true) (hx : evR R x = some (.int k i)) (hr : k'.wrap i = i) (h : U w0 n d ((t, .int k' i) :: R) H (wpList P ops Q rest)) : U w0 n d R H (wpList P ops Q (o :: rest)) :=
  u_val hw hd ht (fun a w q => by
    unfold execOp; rw [hop]
    have e1 := run_underlying i1.und w
    have e2 := run_underlying i2.und w
    simp [q.ev hx, convert, e1, e2, Conv.intToInt, hr]) h
theorem u_nilCheck {p : Addr} (hop : o.op = .nilCheck x) (hw : want R ops o = some true) (hd : o.dst = some t) (ht : Nat.blt t n = true) (hx : evR R x = some (.pointer (some p))) (h : U w0 n d ((t, .pointer (some p)) :: R) H (wpList P ops Q rest)) : U w0 n d R H (wpList P ops Q (o :: rest)) :=
  u_val hw hd ht (fun a w q => by unfold execOp; rw [hop]; simp [q.ev hx]) h
theorem u_makeFunc {fn : Fn} {fs cs : Array Operand} {us vs : List Value} (hop : o.op = .makeFunc fn fs cs) (hw : want R ops o = some true) (hd : o.dst = some t) (ht : Nat.blt t n = true) (hx : evs R fs.toList = some us) (hy : evs R cs.toList = some vs) (h : U w0 n d ((t, .func fn us.toArray vs.toArray) :: R) H (wpList P ops Q rest)) : U w0 n d R H (wpList P ops Q (o :: rest)) :=
  u_val hw hd ht (fun a w q => by
    unfold execOp; rw [hop]
    have e1 : fs.map a.eval = us.toArray := by apply Array.ext'; simpa using q.evs hx
    have e2 : cs.map a.eval = vs.toArray := by apply Array.ext'; simpa using q.evs hy
    simp [e1, e2, Instr.makeFunc]) h
end

section
variable {T T' : TypeId} {k : IntKind} {i j : Int}
theorem u_len {e : TypeId} {s : Nat} {g : Bool} {A : Option Addr} {m c : Nat} (hop : o.op = .call ⟨.builtin .len, #[x], #[T]⟩) [i1 : TyI P T (.slice e) s g] (hw : want R ops o = some true) (hd : o.dst = some t) (ht : Nat.blt t n = true) (hx : evR R x = some (.slice A m c)) (h : U w0 n d ((t, .int .i64 (m : Int)) :: R) H (wpList P ops Q rest)) : U w0 n d R H (wpList P ops Q (o :: rest)) :=
  u_val hw hd ht (fun a w q => by
    unfold execOp; rw [hop]
    have e1 := run_underlying i1.und w
    simp [q.ev hx, resolve, invoke, builtin, Builtin.len_, e1, goInt]) h
theorem u_cap {e : TypeId} {s : Nat} {g : Bool} {A : Option Addr} {m c : Nat} (hop : o.op = .call ⟨.builtin .cap, #[x], #[T]⟩) [i1 : TyI P T (.slice e) s g] (hw : want R ops o = some true) (hd : o.dst = some t) (ht : Nat.blt t n = true) (hx : evR R x = some (.slice A m c)) (h : U w0 n d ((t, .int .i64 (c : Int)) :: R) H (wpList P ops Q rest)) : U w0 n d R H (wpList P ops Q (o :: rest)) :=
  u_val hw hd ht (fun a w q => by
    unfold execOp; rw [hop]
    have e1 := run_underlying i1.und w
    simp [q.ev hx, resolve, invoke, builtin, Builtin.cap_, e1, goInt]) h
theorem u_min {ts : Array TypeId} (hop : o.op = .call ⟨.builtin .min, #[x, y], ts⟩) (hw : want R ops o = some true) (hd : o.dst = some t) (ht : Nat.blt t n = true) (hx : evR R x = some (.int k i)) (hy : evR R y = some (.int k j)) (h : U w0 n d ((t, .int k (min i j)) :: R) H (wpList P ops Q rest)) : U w0 n d R H (wpList P ops Q (o :: rest)) :=
  u_val hw hd ht (fun a w q => by
    unfold execOp; rw [hop]
    have : (if j < i then j else i) = min i j := by omega
    simp [q.ev hx, q.ev hy, resolve, invoke, builtin, Builtin.min_, Builtin.min2, this]) h
theorem u_max {ts : Array TypeId} (hop : o.op = .call ⟨.builtin .max, #[x, y], ts⟩) (hw : want R ops o = some true) (hd : o.dst = some t) (ht : Nat.blt t n = true) (hx : evR R x = some (.int k i)) (hy : evR R y = some (.int k j)) (h : U w0 n d ((t, .int k (max i j)) :: R) H (wpList P ops Q rest)) : U w0 n d R H (wpList P ops Q (o :: rest)) :=
  u_val hw hd ht (fun a w q => by
    unfold execOp; rw [hop]
    have : (if i < j then j else i) = max i j := by omega
    simp [q.ev hx, q.ev hy, resolve, invoke, builtin, Builtin.max_, Builtin.max2, this]) h

theorem addr_add (b off m : Nat) : (⟨b, off, none⟩ : Addr).add m = ⟨b, off + m, none⟩ := by unfold Addr.add; split <;> simp_all
theorem foI {P : Program} {T : TypeId} {fs : Array Field} {f : Field} {td : TypeDesc} {s s' m off : Nat} {g g' : Bool} (i1 : TyI P T (.struct fs) s g) (hf : fs[m]? = some f) (i2 : TyI P f.type td s' g') (hs : Nat.beq s' 0 = false) (ho : f.offset = off) : FoI P T m off := ⟨fun b o w => by
  have e1 := run_underlying i1.und w
  have e2 := i2.siz w
  have hs' : ¬ s' = 0 := by rintro rfl; simp at hs
  subst ho
  simp [Instr.fieldAt, e1, hf, Instr.sureAddr, fieldPlace, e2, hs', addr_add]⟩
theorem u_field {m b off off' : Nat} (hop : o.op = .fieldAddr T x m) [i1 : FoI P T m off'] (hw : want R ops o = some true) (hd : o.dst = some t) (ht : Nat.blt t n = true) (hx : evR R x = some (.pointer (some ⟨b, off, none⟩))) (h : U w0 n d ((t, .pointer (some ⟨b, off + off', none⟩)) :: R) H (wpList P ops Q rest)) : U w0 n d R H (wpList P ops Q (o :: rest)) :=
  u_val hw hd ht (fun a w q => by
    unfold execOp; rw [hop]
    simp only [q.ev hx, Sem.run_bind, i1.at_, Result.andThen_ok, Sem.run_pure]) h
theorem u_index {e : TypeId} {s s' b off m c : Nat} {g g' : Bool} {td : TypeDesc} {I : Nat} (hop : o.op = .indexAddr T x y) [i1 : TyI P T (.slice e) s g] [i2 : TyI P e td s' g'] (hw : want R ops o = some true) (hd : o.dst = some t) (ht : Nat.blt t n = true) (hx : evR R x = some (.slice (some ⟨b, off, none⟩) m c)) (hy : evR R y = some (.int k i)) (hI : i = (I : Int)) (hi : I < m) (h : U w0 n d ((t, .pointer (some ⟨b, off + I * s', none⟩)) :: R) H (wpList P ops Q rest)) : U w0 n d R H (wpList P ops Q (o :: rest)) :=
  u_val hw hd ht (fun a w q => by
    subst hI
    unfold execOp; rw [hop]
    have e1 := run_underlying i1.und w
    have e2 := i2.siz w
    have h0 : (0 : Int) ≤ I := by omega
    have h1 : (I : Int) < m := by omega
    simp [q.ev hx, q.ev hy, Instr.indexAt, asIntOf, e1, e2, hi, addr_add]) h
theorem u_indexA {e : TypeId} {s s' b off m : Nat} {g g' : Bool} {td : TypeDesc} {I : Nat} (hop : o.op = .indexAddr T x y) [i1 : TyI P T (.array m e) s g] [i2 : TyI P e td s' g'] (hw : want R ops o = some true) (hd : o.dst = some t) (ht : Nat.blt t n = true) (hx : evR R x = some (.pointer (some ⟨b, off, none⟩))) (hy : evR R y = some (.int k i)) (hI : i = (I : Int)) (hi : I < m) (h : U w0 n d ((t, .pointer (some ⟨b, off + I * s', none⟩)) :: R) H (wpList P ops Q rest)) : U w0 n d R H (wpList P ops Q (o :: rest)) :=
  u_val hw hd ht (fun a w q => by
    subst hI
    unfold execOp; rw [hop]
    have e1 := run_underlying i1.und w
    have e2 := i2.siz w
    have h0 : (0 : Int) ≤ I := by omega
    have h1 : (I : Int) < m := by omega
    simp [q.ev hx, q.ev hy, Instr.indexAt, asIntOf, e1, e2, hi, addr_add, Instr.sureAddr]) h
end

/-! ### reading -/
/-- From block b, place off on, these cells are read. -/
def Src (w0 : World) (H : List Ent) (b off : Nat) (vs : List Value) : Prop :=
  ∀ w, Below w0.heap.size w0 w → Own w0.heap.size w H → ∀ j v, vs[j]? = some v → w.cell? ⟨b, off + j, none⟩ = some v
theorem Src.blk {b : Nat} {cs : List Value} (h : Take H (.blk b cs) H') : Src w0 H b 0 cs := fun w _ ho j v hv => by
  have := (ho.here _ h.mem : Blk w b cs.toArray).cell j
  simpa [hv] using this
theorem Src.add {b off j : Nat} {cs : List Value} (h : Src w0 H b off cs) : Src w0 H b (off + j) (cs.drop j) := fun w hb ho i v hv => by
  have := h w hb ho (j + i) v (by simpa using hv)
  rwa [show off + j + i = off + (j + i) by omega]
theorem Src.in_ {α : Type} {enc : α → List Value} {k b off i : Nat} {xs : List α} {z : α} (h : SlAt enc k w0 (some ⟨b, off, none⟩) xs) (hi : xs[i]? = some z) : Src w0 H b (off + i * k) (enc z) := fun w hb _ j v hv => by
  obtain ⟨b', o', hA, hlt, hc⟩ := h i z hi
  cases hA
  rw [hb.cell hlt]
  exact hc j v hv
theorem Src.sl {α : Type} {enc : α → List Value} {k b off i : Nat} {xs : List α} {z : α} (h : Take H (.sl enc k (some ⟨b, off, none⟩) xs) H') (hi : xs[i]? = some z) : Src w0 H b (off + i * k) (enc z) := fun w _ ho j v hv => by
  obtain ⟨b', o', hA, hlt, hc⟩ := (ho.here _ h.mem : SlAt enc k w _ xs) i z hi
  cases hA
  exact hc j v hv
theorem Src.cell {b off : Nat} {v : Value} (h : w0.cell? ⟨b, off, none⟩ = some v) : Src w0 H b off [v] := fun w hb _ j u hu => by
  have hlt := World.block_lt_of_cell? w0 _ h
  match j, hu with
  | 0, hu => simp at hu; subst hu; rw [hb.cell (p := ⟨b, off + 0, none⟩) hlt]; exact h

/-- what a load of a type of s cells gives -/
def rdv (g : Bool) (vs : List Value) (s : Nat) : Option Value :=
  match g with
  | true => cond (Nat.ble s vs.length) (some (.agg (vs.take s).toArray)) none
  | false => vs[0]?
theorem u_load {T : TypeId} {td : TypeDesc} {s b off : Nat} {g : Bool} {vs : List Value} (hop : o.op = .load T x) [i1 : TyI P T td s g] (hw : want R ops o = some true) (hd : o.dst = some t) (ht : Nat.blt t n = true) (hx : evR R x = some (.pointer (some ⟨b, off, none⟩))) (hs : Src w0 H b off vs) (hv : rdv g vs s = some v) (h : U w0 n d ((t, v) :: R) H (wpList P ops Q rest)) : U w0 n d R H (wpList P ops Q (o :: rest)) :=
  u_val hw hd ht (fun a w q => by
    unfold execOp; rw [hop]
    have e1 := i1.agg w
    have e2 := i1.siz w
    have hc := hs w q.below q.own
    cases g
    · simp only [rdv] at hv
      have := hc 0 v hv
      simp only [Nat.add_zero] at this
      simp [q.ev hx, Instr.loadAt, Instr.sureAddr, loadVar, e1, this]
    · simp only [rdv] at hv
      cases hl : Nat.ble s vs.length with
      | false => rw [hl] at hv; simp at hv
      | true =>
        rw [hl] at hv
        simp only [cond_true, Option.some.injEq] at hv
        subst hv
        have hlen : (vs.take s).length = s := by have := Nat.le_of_ble_eq_true hl; simp; omega
        have := run_loadCells_list (P := P) w ⟨b, off, none⟩ (vs.take s) (fun j u hu => by
          rw [addr_add]
          refine hc j u ?_
          rw [List.getElem?_take] at hu
          split at hu
          · exact hu
          · cases hu)
        rw [hlen] at this
        simp [q.ev hx, Instr.loadAt, Instr.sureAddr, loadVar, e1, e2, this]) h

/-! ### new memory, and stores -/
theorem u_alloc {T : TypeId} {z : List Value} (hop : o.op = .alloc T) [i1 : TyZ P T z] (hw : want R ops o = some true) (hd : o.dst = some t) (ht : Nat.blt t n = true)
    (h : ∀ b, U w0 n d ((t, .pointer (some ⟨b, 0, none⟩)) :: R) (.blk b z :: H) (wpList P ops Q rest)) : U w0 n d R H (wpList P ops Q (o :: rest)) :=
  u_op hw fun a w q K hK => by
    obtain ⟨v, e1, e2⟩ := i1.zero w
    unfold Oper.wp execOp; rw [hop]
    simp only [Sem.run_bind, Instr.alloc, e1, Result.andThen_ok, newVar, newRow, run_newObj, Sem.run_pure, e2, Oper.upon_value, hd]
    exact hK _ _ (h w.heap.size _ _ ((q.alloc z T).put ht))
theorem u_box {T : TypeId} (hop : o.op = .box T x) (hw : want R ops o = some true) (hd : o.dst = some t) (ht : Nat.blt t n = true) (hx : evR R x = some v)
    {cs : List Value} (hc : v.cells.toList = cs) (h : ∀ b, U w0 n d ((t, .pointer (some ⟨b, 0, none⟩)) :: R) (.blk b cs :: H) (wpList P ops Q rest)) : U w0 n d R H (wpList P ops Q (o :: rest)) :=
  u_op hw fun a w q K hK => by
    have e2 : v.cells = cs.toArray := by rw [← hc]
    unfold Oper.wp execOp; rw [hop]
    simp only [Sem.run_bind, q.ev hx, Instr.box, Result.andThen_ok, newVar, newRow, run_newObj, Sem.run_pure, e2, Oper.upon_value, hd]
    exact hK _ _ (h w.heap.size _ _ ((q.alloc cs T).put ht))
def evp (R : List (Nat × Value)) : List (Nat × Operand) → Option (List (Nat × Value))
  | [] => some []
  | (i, x) :: r => match evR R x, evp R r with | some v, some vs => some ((i, v) :: vs) | _, _ => none
theorem Kn.evp {a : Act} {w : World} : ∀ {xs : List (Nat × Operand)} {vs : List (Nat × Value)} (_ : Kn w0 n d R H a w) (_ : evp R xs = some vs), xs.map (fun p => (p.1, a.eval p.2)) = vs
  | [], vs, _, hx => by simp only [Proofs.Ytekjkaoibcfgfaa.evp, Option.some.injEq] at hx; subst hx; rfl
  | (i, x) :: r, vs, h, hx => by
    simp only [Proofs.Ytekjkaoibcfgfaa.evp] at hx
    cases h1 : evR R x with
    | none => rw [h1] at hx; simp at hx
    | some v =>
      cases h2 : Proofs.Ytekjkaoibcfgfaa.evp R r with
      | none => rw [h1, h2] at hx; simp at hx
      | some us =>
        rw [h1, h2] at hx
        simp only [Option.some.injEq] at hx
        subst hx
        rw [List.map_cons, h.ev h1, Kn.evp h h2]
/-- parts put in their places -/
def put1 : List Value → Nat → List Value → List Value
  | cs, _, [] => cs
  | cs, off, v :: r => put1 (cs.set off v) (off + 1) r
def fillL (place : Nat → Option (Nat × Nat)) : List Value → List (Nat × Value) → Option (List Value)
  | cs, [] => some cs
  | cs, (i, v) :: r => match place i with
    | none => none
    | some (off, s) => cond (Nat.beq v.cells.toList.length s && Nat.ble (off + s) cs.length) (fillL place (put1 cs off v.cells.toList) r) none
theorem put1_len : ∀ (vs : List Value) (cs : List Value) (off : Nat), (put1 cs off vs).length = cs.length
  | [], _, _ => rfl
  | v :: r, cs, off => by rw [put1, put1_len r]; simp
theorem fold_put1 : ∀ (vs : List Value) (cs : List Value) (off k : Nat), (vs.zipIdx k).foldl (fun (cs : Array Value) (p : Value × Nat) => cs.setIfInBounds (off + p.2) p.1) cs.toArray = (put1 cs (off + k) vs).toArray
  | [], _, _, _ => rfl
  | v :: r, cs, off, k => by
    rw [List.zipIdx_cons, List.foldl_cons, put1]
    have := fold_put1 r (cs.set (off + k) v) off (k + 1)
    simp only [List.setIfInBounds_toArray] at this ⊢
    rw [this]; rfl
theorem fill_eq (place : Nat → Option (Nat × Nat)) : ∀ (ps : List (Nat × Value)) (cs cs' : List Value), fillL place cs ps = some cs' → Instr.fill place cs.toArray ps = some cs'.toArray
  | [], cs, cs', h => by simp only [fillL, Option.some.injEq] at h; subst h; rfl
  | (i, v) :: r, cs, cs', h => by
    simp only [fillL] at h
    simp only [Instr.fill]
    cases hp : place i with
    | none => rw [hp] at h; simp at h
    | some q =>
      obtain ⟨off, s⟩ := q
      rw [hp] at h
      simp only at h ⊢
      cases hb : (Nat.beq v.cells.toList.length s && Nat.ble (off + s) cs.length) with
      | false => rw [hb] at h; simp at h
      | true =>
        rw [hb] at h
        simp only [cond_true] at h
        simp only [Bool.and_eq_true] at hb
        have h1 : v.cells.size = s := Nat.eq_of_beq_eq_true hb.1
        have h2 := Nat.le_of_ble_eq_true hb.2
        have e1 : (decide (v.cells.size ≠ s) || decide (off + v.cells.size > cs.toArray.size)) = false := by
          simp [h1]; omega
        rw [if_neg (by rw [e1]; simp)]
        have e2 : v.cells.zipIdx.foldl (fun (cs : Array Value) (p : Value × Nat) => cs.setIfInBounds (off + p.2) p.1) cs.toArray = (put1 cs off v.cells.toList).toArray := by
          have := fold_put1 v.cells.toList cs off 0
          rw [← Array.foldl_toList, Array.toList_zipIdx]; exact this
        have := fill_eq place r _ _ h
        rw [← e2] at this
        exact this
theorem u_build {T : TypeId} {ps : Array (Nat × Operand)} {pl : List (Nat × Nat)} {z cs : List Value} {qs : List (Nat × Value)} (hop : o.op = .build T ps) [i1 : TyB P T pl z] (hw : want R ops o = some true) (hd : o.dst = some t) (ht : Nat.blt t n = true) (hp : evp R ps.toList = some qs)
    (hf : fillL (pl[·]?) z qs = some cs) (h : U w0 n d ((t, .agg cs.toArray) :: R) H (wpList P ops Q rest)) : U w0 n d R H (wpList P ops Q (o :: rest)) :=
  u_val hw hd ht (fun a w q => by
    unfold execOp; rw [hop]
    have e1 : (ps.map fun (i, x) => (i, a.eval x)).toList = qs := by rw [Array.toList_map]; exact q.evp hp
    have e2 : P.built T (ps.map fun (i, x) => (i, a.eval x)).toList = some cs.toArray := by
      rw [i1.bui, e1]
      have := fill_eq (pl[·]?) qs z cs hf
      simpa using this
    simp only [Sem.run_bind, run_build w T _ _ e2, Result.andThen_ok, Sem.run_pure]) h
def zerosL (z : List Value) : Nat → List Value
  | 0 => []
  | n + 1 => z ++ zerosL z n
theorem zerosL_eq (z : List Value) (hz : 0 < z.length) : ∀ n : Nat, ((Array.range (n * z.length)).map (z.toArray[· % z.toArray.size]!)) = (zerosL z n).toArray := by
  intro n
  apply Array.ext'
  induction n with
  | zero => simp [zerosL]
  | succ n ih =>
    simp only [zerosL, Array.toList_map, Array.toList_range] at ih ⊢
    rw [show (n + 1) * z.length = z.length + n * z.length by rw [Nat.succ_mul]; omega, List.range_add, List.map_append, List.map_map]
    have e1 : (List.range z.length).map (fun i => z.toArray[i % z.toArray.size]!) = z := by
      apply List.ext_getElem
      · simp
      · intro i h1 h2
        simp [Nat.mod_eq_of_lt h2, h2]
    have e2 : ((fun i => z.toArray[i % z.toArray.size]!) ∘ fun x => z.length + x) = fun i => z.toArray[i % z.toArray.size]! := by
      funext i; simp
    rw [e1, e2, ih]
theorem run_buildSlice_of {P : Program} {w : World} {o : Oper} {a : Act} {T e : TypeId} {len s s' : Nat} {g g' : Bool} {td : TypeDesc} {ps : Array (Nat × Operand)} {z cs : List Value} {qs : List (Nat × Value)} (hop : o.op = .buildSlice T len ps) (i1 : TyI P T (.slice e) s g) (i2 : TyI P e td s' g') (i3 : TyZ P e z) (hp : ps.toList.map (fun p => (p.1, a.eval p.2)) = qs) (hz : Nat.beq z.length s' = true) (hs0 : Nat.blt 0 s' = true) (hl : Nat.ble (len * s') 16777216 = true)
    (hf : fillL (fun i => some (i * s', s')) (zerosL z len) qs = some cs) : (Instr.buildSlice T len (ps.map fun (i, x) => (i, a.eval x))).run P w = .ok (.slice (some ⟨w.heap.size, 0, none⟩) len len) (w.alloc (.cells cs.toArray e)) := by
  obtain ⟨v, e1, e2⟩ := i3.zero w
  have e3 := run_underlying i1.und w
  have e4 := i2.siz w
  have e5 : (ps.map fun (i, x) => (i, a.eval x)).toList = qs := by rw [Array.toList_map]; exact hp
  have hz' : z.length = s' := Nat.eq_of_beq_eq_true hz
  have hs0' : 0 < s' := Nat.le_of_ble_eq_true hs0
  have hl' : len * s' ≤ 16777216 := Nat.le_of_ble_eq_true hl
  have e6 : (Array.range (len * s')).map (z.toArray[· % z.toArray.size]!) = (zerosL z len).toArray := by rw [← hz']; exact zerosL_eq z (by omega) len
  have e7 := fill_eq (fun i => some (i * s', s')) qs _ _ hf
  unfold Instr.buildSlice
  simp only [Sem.run_bind, e3, Result.andThen_ok, e4, Sem.run_ite, show ¬ len * s' > 2 ^ 24 by omega, if_false, Sem.run_pure, e5]
  by_cases hlen : len * s' = 0
  · simp only [hlen, if_true, Sem.run_pure, Result.andThen_ok]
    have hl0 : len = 0 := by
      rcases Nat.mul_eq_zero.1 hlen with h | h
      · exact h
      · omega
    subst hl0
    simp only [zerosL] at e7
    have e8 : ∀ f : Nat → Value, (Array.range 0).map f = #[] := fun f => by simp
    simp only [e8, e7, newRow, Sem.run_bind, run_newObj, Result.andThen_ok, Sem.run_pure]
    rfl
  · simp only [hlen, if_false, Sem.run_bind, e1, Result.andThen_ok, Sem.run_pure, e2, e6, e7, newRow, run_newObj]
    rfl
theorem u_buildSlice {T e : TypeId} {len s s' : Nat} {g g' : Bool} {td : TypeDesc} {ps : Array (Nat × Operand)} {z cs : List Value} {qs : List (Nat × Value)} (hop : o.op = .buildSlice T len ps) [i1 : TyI P T (.slice e) s g] [i2 : TyI P e td s' g'] [i3 : TyZ P e z] (hw : want R ops o = some true) (hd : o.dst = some t) (ht : Nat.blt t n = true) (hp : evp R ps.toList = some qs) (hz : Nat.beq z.length s' = true) (hs0 : Nat.blt 0 s' = true) (hl : Nat.ble (len * s') 16777216 = true)
    (hf : fillL (fun i => some (i * s', s')) (zerosL z len) qs = some cs) (h : ∀ b, U w0 n d ((t, .slice (some ⟨b, 0, none⟩) len len) :: R) (.blk b cs :: H) (wpList P ops Q rest)) : U w0 n d R H (wpList P ops Q (o :: rest)) :=
  u_op hw fun a w q K hK => by
    have hrun := run_buildSlice_of (P := P) (w := w) (o := o) (a := a) hop i1 i2 i3 (q.evp hp) hz hs0 hl hf
    unfold Oper.wp execOp; rw [hop]
    simp only [Sem.run_bind, hrun, Result.andThen_ok, Sem.run_pure, Oper.upon_value, hd]
    exact hK _ _ (h w.heap.size _ _ ((q.alloc cs e).put ht))

/-- cells written from place off on -/
theorem heap_setCells (b : Nat) : ∀ (vs : List Value) (off : Nat) (w : World) (cs : List Value), Blk w b cs.toArray →
    Blk (w.setCells b off vs) b (put1 cs off vs).toArray ∧ (w.setCells b off vs).os = w.os ∧ (w.setCells b off vs).tape = w.tape ∧ (w.setCells b off vs).output = w.output ∧ (w.setCells b off vs).heap.size = w.heap.size ∧ ∀ k, k ≠ b → (w.setCells b off vs).heap[k]? = w.heap[k]?
  | [], off, w, cs, h => ⟨h, rfl, rfl, rfl, rfl, fun _ _ => rfl⟩
  | v :: r, off, w, cs, h => by
    have h1 : Blk (w.setCell ⟨b, off, none⟩ v) b (cs.set off v).toArray := (h.set_ off v).cast (by simp)
    obtain ⟨g1, g2, g3, g4, g5, g6⟩ := heap_setCells b r (off + 1) _ _ h1
    refine ⟨g1, g2, g3, g4, by rw [World.setCells, g5]; simp, fun k hk => ?_⟩
    rw [World.setCells, g6 k hk]
    exact Below.heap_setCell _ _ _ _ hk
theorem u_store {T : TypeId} {td : TypeDesc} {s b off : Nat} {g : Bool} {cs cs' : List Value} (hop : o.op = .store T x y) [i1 : TyI P T td s g] (hw : want R ops o = some true) (hd : o.dst = none) (hx : evR R x = some (.pointer (some ⟨b, off, none⟩))) (hy : evR R y = some v) (ht : Take H (.blk b cs) H')
    (hv : Nat.beq v.cells.toList.length s = true) (h1 : v.cells.toList.all Value.oneCell' = true) (hl : Nat.ble (off + s) cs.length = true) (hc : put1 cs off v.cells.toList = cs')
    (h : U w0 n d R (.blk b cs' :: H') (wpList P ops Q rest)) : U w0 n d R H (wpList P ops Q (o :: rest)) :=
  u_op hw fun a w q K hK => by
    have ho := q.own.take ht
    have hb : Blk w b cs.toArray := ho.here (.blk b cs) (by simp)
    have hs : v.cells.toList.length = s := Nat.eq_of_beq_eq_true hv
    have hlen := Nat.le_of_ble_eq_true hl
    have e1 := i1.siz w
    obtain ⟨g1, g2, g3, g4, g5, g6⟩ := heap_setCells b v.cells.toList off w cs hb
    have hfoot : w0.heap.size ≤ b := (ho.foot (.blk b cs) (by simp) b rfl).1
    have hrun : (Instr.storeAt T (.pointer (some ⟨b, off, none⟩)) v).run P w = .ok () (w.setCells b off v.cells.toList) := by
      have := run_storeCells_cells (P := P) b off v.cells.toList 0 w (fun j hj => by have h9 : off + j < cs.length := (by omega); rw [hb.cell]; simp [h9]) (fun j hj => hb.frozen _) (fun u hu => List.all_eq_true.1 h1 u hu)
      simp only [Nat.add_zero] at this
      have hsz : ¬ v.cells.size ≠ s := by simpa using hs
      unfold Instr.storeAt storeVar
      simp only [Sem.run_bind, Instr.sureAddr, Sem.run_pure, Result.andThen_ok, e1, Sem.run_ite, hsz, if_false, this]
    unfold Oper.wp execOp; rw [hop]
    simp only [Sem.run_bind, q.ev hx, q.ev hy, hrun, Result.andThen_ok, Sem.run_pure, Oper.upon_skip, hd]
    refine hK _ _ (h _ _ (q.heap ?_ ?_))
    · exact q.below.trans ⟨g2, g3, g4, by omega, fun k hk => g6 k (by omega)⟩
    · exact ho.turn (by omega) (fun k hk hn => g6 k hn) q.base (hc ▸ g1) (fun k hk => by
        cases hk
        exact ⟨.inl rfl, by rw [g5]; exact (ho.foot (.blk b cs) (by simp) b rfl).2⟩)
end

/-! ### entries and cells found by instances -/
class TakeB (H : List Ent) (g : Nat) (cs : outParam (List Value)) (H' : outParam (List Ent)) : Prop where tk : Take H (.blk g cs) H'
instance (priority := high) takeB_here {H : List Ent} {g : Nat} {cs : List Value} : TakeB (.blk g cs :: H) g cs H := ⟨Take.here _ _⟩
instance takeB_there {H H' : List Ent} {e : Ent} {g : Nat} {cs : List Value} [i : TakeB H g cs H'] : TakeB (e :: H) g cs (e :: H') := ⟨Take.there _ i.tk⟩
/-- an element of a list -/
class GetI {α : Type} (xs : List α) (i : Nat) (x : outParam α) : Prop where get : xs[i]? = some x
/-- a slice of what was there -/
class InS (w0 : World) (b off : Nat) {α : outParam Type} (enc : outParam (α → List Value)) (k : outParam Nat) (xs : outParam (List α)) : Prop where sl : SlAt enc k w0 (some ⟨b, off, none⟩) xs
/-- cells of what was there -/
class InC (w0 : World) (b off : Nat) (vs : outParam (List Value)) : Prop where cells : ∀ j v, vs[j]? = some v → w0.cell? ⟨b, off + j, none⟩ = some v
class TakeS (H : List Ent) (b off : Nat) {α : outParam Type} (enc : outParam (α → List Value)) (k : outParam Nat) (xs : outParam (List α)) (H' : outParam (List Ent)) : Prop where tk : Take H (.sl enc k (some ⟨b, off, none⟩) xs) H'
instance (priority := high) takeS_here {H : List Ent} {b off : Nat} {α : Type} {enc : α → List Value} {k : Nat} {xs : List α} : TakeS (.sl enc k (some ⟨b, off, none⟩) xs :: H) b off enc k xs H := ⟨Take.here _ _⟩
instance takeS_there {H H' : List Ent} {e : Ent} {b off : Nat} {α : Type} {enc : α → List Value} {k : Nat} {xs : List α} [i : TakeS H b off enc k xs H'] : TakeS (e :: H) b off enc k xs (e :: H') := ⟨Take.there _ i.tk⟩
class SrcI (w0 : World) (H : List Ent) (b off : Nat) (vs : outParam (List Value)) : Prop where src : Src w0 H b off vs
instance srcI_blk {w0 : World} {H H' : List Ent} {b : Nat} {cs : List Value} [i : TakeB H b cs H'] : SrcI w0 H b 0 cs := ⟨Src.blk i.tk⟩
instance (priority := low) srcI_add {w0 : World} {H : List Ent} {b off j : Nat} {cs : List Value} [i : SrcI w0 H b off cs] : SrcI w0 H b (off + j) (cs.drop j) := ⟨i.src.add⟩
instance srcI_in {w0 : World} {H : List Ent} {b off i k : Nat} {α : Type} {enc : α → List Value} {xs : List α} {x : α} [i1 : InS w0 b off enc k xs] [i2 : GetI xs i x] : SrcI w0 H b (off + i * k) (enc x) := ⟨Src.in_ i1.sl i2.get⟩
instance srcI_inc {w0 : World} {H : List Ent} {b off : Nat} {vs : List Value} [i : InC w0 b off vs] : SrcI w0 H b off vs := ⟨fun w hb _ j v hv => by
  have h := i.cells j v hv
  have hlt := World.block_lt_of_cell? w0 _ h
  rw [hb.cell (p := ⟨b, off + j, none⟩) hlt]; exact h⟩
instance srcI_sl {w0 : World} {H H' : List Ent} {b off i k : Nat} {α : Type} {enc : α → List Value} {xs : List α} {x : α} [i1 : TakeS H b off enc k xs H'] [i2 : GetI xs i x] : SrcI w0 H b (off + i * k) (enc x) := ⟨Src.sl i1.tk i2.get⟩

/-! ### the same, what is found out on the way in an ∃ -/
section
variable {P : Program} {w0 : World} {n : Nat} {d : List Deferred} {R : List (Nat × Value)} {H H' : List Ent} {Q : Exit → Act → World → Prop} {ops : Array Oper} {rest : List Oper} {o : Oper} {t : Tmp} {x y : Operand} {v u : Value}
theorem x_load {T : TypeId} {td : TypeDesc} {s b off : Nat} {g : Bool} {vs : List Value} (hop : o.op = .load T x) [i1 : TyI P T td s g] (hw : want R ops o = some true) (hd : o.dst = some t) (ht : Nat.blt t n = true) (hx : evR R x = some (.pointer (some ⟨b, off, none⟩))) [i2 : SrcI w0 H b off vs]
    (h : ∃ v, rdv g vs s = some v ∧ U w0 n d ((t, v) :: R) H (wpList P ops Q rest)) : U w0 n d R H (wpList P ops Q (o :: rest)) := by
  obtain ⟨v, h2, h3⟩ := h
  exact u_load hop hw hd ht hx i2.src h2 h3
theorem x_build {T : TypeId} {ps : Array (Nat × Operand)} {pl : List (Nat × Nat)} {z : List Value} {qs : List (Nat × Value)} (hop : o.op = .build T ps) [i1 : TyB P T pl z] (hw : want R ops o = some true) (hd : o.dst = some t) (ht : Nat.blt t n = true) (hp : evp R ps.toList = some qs)
    (h : ∃ cs, fillL (pl[·]?) z qs = some cs ∧ U w0 n d ((t, .agg cs.toArray) :: R) H (wpList P ops Q rest)) : U w0 n d R H (wpList P ops Q (o :: rest)) := by
  obtain ⟨cs, h1, h2⟩ := h
  exact u_build hop hw hd ht hp h1 h2
theorem x_buildSlice {T e : TypeId} {len s s' : Nat} {g g' : Bool} {td : TypeDesc} {ps : Array (Nat × Operand)} {z : List Value} {qs : List (Nat × Value)} (hop : o.op = .buildSlice T len ps) [i1 : TyI P T (.slice e) s g] [i2 : TyI P e td s' g'] [i3 : TyZ P e z] (hw : want R ops o = some true) (hd : o.dst = some t) (ht : Nat.blt t n = true) (hp : evp R ps.toList = some qs)
    (h : (Nat.beq z.length s' && Nat.blt 0 s' && Nat.ble (len * s') 16777216) = true ∧ ∃ cs, fillL (fun i => some (i * s', s')) (zerosL z len) qs = some cs ∧ ∀ b, U w0 n d ((t, .slice (some ⟨b, 0, none⟩) len len) :: R) (.blk b cs :: H) (wpList P ops Q rest)) : U w0 n d R H (wpList P ops Q (o :: rest)) := by
  obtain ⟨h0, cs, h1, h2⟩ := h
  simp only [Bool.and_eq_true] at h0
  exact u_buildSlice hop hw hd ht hp h0.1.1 h0.1.2 h0.2 h1 h2
theorem x_store {T : TypeId} {td : TypeDesc} {s b off : Nat} {g : Bool} {cs : List Value} (hop : o.op = .store T x y) [i1 : TyI P T td s g] (hw : want R ops o = some true) (hd : o.dst = none) (hx : evR R x = some (.pointer (some ⟨b, off, none⟩))) [i2 : TakeB H b cs H'] (hy : evR R y = some v)
    (h : (Nat.beq v.cells.toList.length s && v.cells.toList.all Value.oneCell') = true ∧ off + s ≤ cs.length ∧ ∃ cs', put1 cs off v.cells.toList = cs' ∧ U w0 n d R (.blk b cs' :: H') (wpList P ops Q rest)) : U w0 n d R H (wpList P ops Q (o :: rest)) := by
  obtain ⟨h2, h3, cs', h4, h5⟩ := h
  simp only [Bool.and_eq_true] at h2
  exact u_store hop hw hd hx hy i2.tk h2.1 h2.2 (Nat.ble_eq_true_of_le h3) h4 h5
end
end Go.Proofs.Ytekjkaoibcfgfaa
