/- A region whose order is left open and whose operations only read, or call what returns a value: one walk in the order of the text. -/
import Derived.Test.YtdigopgncfhiaaaDoorA5
import Derived.Deep.Quiet
namespace Go.Proofs.YtdigopgncfhiaaaDoor
variable {ro : Option Nat}
open Go.RowKit
set_option linter.unusedSimpArgs false
set_option linter.unusedVariables false
/-- the worlds of which H is known -/
def ClsH (w0 : World) (H : List Ent) (w : World) : Prop := Below w0.heap.size w0 w ∧ Own w0.heap.size w H
/-- a walk through operations of which each yields one value in all such worlds -/
def UQ (P : Program) (w0 : World) (n : Nat) (d : List Deferred) (R : List (Nat × Value)) (H : List Ent) (ops : Array Oper) (K : Act → Prop) (rest : List Oper) : Prop :=
  ∀ a : Act, a.tmps.size = n → a.defers = d → (∀ t v, lk R t = some v → a.tmps.getD t undef = v) → wpQuiet P ops (ClsH w0 H) K rest a
section
variable {P : Program} {w0 : World} {n : Nat} {d : List Deferred} {R : List (Nat × Value)} {H H' : List Ent} {Q : Exit → Act → World → Prop} {K : Act → Prop} {ops : Array Oper} {rest : List Oper} {o : Oper} {t : Tmp} {x y : Operand} {v : Value} {C : World → Prop}
theorem wpOpIn_of_qOp {i : Nat} {a : Act} {K : Act → Prop} {K' : Act → World → Prop} {Q' : Exit → Act → World → Prop} {w : World} (hdf : ∀ o ∈ ops.toList, isDef o = false) (hC : C w) (h : ∀ a w', C w' → K a → K' a w') (hh : qOp P ops C i K a) : wpOpIn (FW ro) 9 P ops Q' i K' a w := by
  unfold qOp at hh
  unfold wpOpIn
  split
  · rename_i ho; simp only [ho] at hh; exact h _ _ hC hh
  · rename_i o ho
    simp only [ho] at hh
    split
    · rename_i hw; simp only [hw, if_true] at hh; exact opIn (hdf o (by have := Array.mem_of_getElem? ho; simpa using this)) (Oper.wp_of_quiet hC h hh)
    · rename_i hw; simp only [hw] at hh; exact ⟨fun _ _ => trivial, h _ _ hC hh⟩
theorem wpAnyIn_of_quiet {Q : Act → Prop} {Q' : Exit → Act → World → Prop} (hdf : ∀ o ∈ ops.toList, isDef o = false) (hQ : ∀ a w, C w → Q a → Q' .normal a w) : ∀ (fuel : Nat) (listed : Array Bool) (a : Act) (w : World), C w →
    wpAnyQ P .any ops C Q fuel listed a → wpAnyIn (FW ro) 9 P .any ops Q' fuel listed a w
  | 0, _, _, _, hw, h => ⟨h.1, hQ _ _ hw h.2⟩
  | fuel + 1, _, _, _, hw, h => ⟨fun h0 => hQ _ _ hw (h.1 h0), fun i hi => wpOpIn_of_qOp hdf hw (fun a' w' hw' => wpAnyIn_of_quiet hdf hQ fuel _ a' w' hw') (h.2 i hi)⟩
theorem u_quiet {id : Nat} {l : List Oper} (hm : P.follows .mixedOrders = true) (hB : Region.lexB .any l.toArray = true) (hDf : (l.all fun o => !isDef o) = true) (h : UQ P w0 n d R H l.toArray (fun a' => ∀ w', ClsH w0 H w' → Q .normal a' w') l) : U w0 n d R H ((Code.region id l.toArray true).wpI ro P Q) := fun a w q => by
  have h1 := h a q.size q.defers q.regs
  simp only [Region.lexB, Bool.and_eq_true] at hB
  have hC : ClsH w0 H { w with drawn := w.drawn + 1 } := ⟨⟨q.below.os, q.below.tape, q.below.output, q.below.size, q.below.block⟩, q.own.past (Nat.le_refl _) (fun _ _ _ _ => rfl)⟩
  refine wpIn_region_any hm (wpAnyIn_of_quiet (C := ClsH w0 H) (Q := fun a' => ∀ w', ClsH w0 H w' → Q .normal a' w') (fun o ho => by have := List.all_eq_true.1 hDf o (by simpa using ho); simpa using this) (fun _ w' hw' h => h w' hw') _ _ _ _ hC ?_)
  have := wpAnyQ_lex (C := ClsH w0 H) (md := .any) hB.1 l 0 (Array.replicate l.toArray.size false) a (by simp) (by simpa using hB.2) h1
  simpa using this
theorem q_nil (h : U w0 n d R H (Q .normal)) : UQ P w0 n d R H ops (fun a' => ∀ w', ClsH w0 H w' → Q .normal a' w') [] := fun a h1 h2 h3 => wpQuiet_nil (fun w' hw => h a w' ⟨h1, h2, h3, hw.1, hw.2⟩)
theorem put_regs {a : Act} (h1 : a.tmps.size = n) (h3 : ∀ t v, lk R t = some v → a.tmps.getD t undef = v) (ht : Nat.blt t n = true) : ∀ u x, lk ((t, v) :: R) u = some x → (a.put (some t) v).tmps.getD u undef = x := fun u x hx => by
  have hlt : t < a.tmps.size := by rw [h1]; exact Nat.le_of_ble_eq_true ht
  by_cases hu : t = u
  · subst hu
    rw [lk_cons_eq] at hx
    cases hx
    simp [Act.put, hlt]
  · rw [lk_cons_ne hu] at hx
    have := h3 u x hx
    simp only [Act.put, Array.getD_eq_getD_getElem?] at this ⊢
    rw [Array.getElem?_setIfInBounds_ne hu]
    exact this
theorem want_okA {a : Act} {b : Bool} (h3 : ∀ t v, lk R t = some v → a.tmps.getD t undef = v) (hw : want R ops o = some b) : Region.wanted o (yielded ops a.tmps) = b :=
  want_ok (R := R) (H := []) (n := a.tmps.size) (d := a.defers) (w0 := (default : World)) (w := default) ⟨rfl, rfl, h3, Below.refl _ _, Own.nil _ _⟩ hw
/-- an operation whose value is known -/
theorem q_val (he : Ev P w0 n d R H o v) (hw : want R ops o = some true) (hd : o.dst = some t) (ht : Nat.blt t n = true) (h : UQ P w0 n d ((t, v) :: R) H ops K rest) : UQ P w0 n d R H ops K (o :: rest) := fun a h1 h2 h3 =>
  wpQuiet_step fun K' hK => by
    rw [want_okA h3 hw, if_pos rfl]
    refine ⟨v, fun w hC => ?_, ?_⟩
    · unfold Oper.quietAt
      rw [he a w ⟨h1, h2, h3, hC.1, hC.2⟩]
      exact ⟨rfl, rfl⟩
    · rw [hd]
      exact hK _ (h _ (by simp [Act.put, h1]) h2 (put_regs h1 h3 ht))
theorem q_not_wanted (hw : want R ops o = some false) (hd : o.dst = some t) (ht : Nat.blt t n = true) (h : UQ P w0 n d ((t, undef) :: R) H ops K rest) : UQ P w0 n d R H ops K (o :: rest) := fun a h1 h2 h3 =>
  wpQuiet_step fun K' hK => by
    rw [want_okA h3 hw, hd]
    simp only [Bool.false_eq_true, if_false]
    exact hK _ (h _ (by simp [Act.put, h1]) h2 (put_regs h1 h3 ht))
theorem q_cmp {T1 T2 : TypeId} {c : BinOp} {k : IntKind} {i j : Int} (hop : o.op = .binOp c T1 x y T2) (hc : isCmp c = true) (hw : want R ops o = some true) (hd : o.dst = some t) (ht : Nat.blt t n = true) (hx : evR R x = some (.int k i)) (hy : evR R y = some (.int k j))
    (h1 : cmpP c i j → UQ P w0 n d ((t, .bool true) :: R) H ops K rest) (h2 : ¬ cmpP c i j → UQ P w0 n d ((t, .bool false) :: R) H ops K rest) : UQ P w0 n d R H ops K (o :: rest) := by
  by_cases hp : cmpP c i j
  · exact q_val (fun a w q => run_cmp_t hc hop (q.ev hx) (q.ev hy) hp) hw hd ht (h1 hp)
  · exact q_val (fun a w q => run_cmp_f hc hop (q.ev hx) (q.ev hy) hp) hw hd ht (h2 hp)
theorem q_gives {f : FuncId} {fx : Operand} {xs : Array Operand} {ts : Array TypeId} {vs : List Value} {cap : Array Value} (hop : o.op = .call ⟨.value fx, xs, ts⟩) (hw : want R ops o = some true) (hd : o.dst = some t) (ht : Nat.blt t n = true) (hf : evR R fx = some (.func (.func f) #[] cap)) (hx : evs R xs.toList = some vs) [ci : CallI P f]
    (hc : ∀ a w, Kn w0 n d R H a w → Gv P f (vs ++ cap.toList) w v) (h : UQ P w0 n d ((t, v) :: R) H ops K rest) : UQ P w0 n d R H ops K (o :: rest) := fun a h1 h2 h3 =>
  wpQuiet_step fun K' hK => by
    rw [want_okA h3 hw, if_pos rfl]
    refine ⟨v, fun w hC => ?_, ?_⟩
    · have q : Kn w0 n d R H a w := ⟨h1, h2, h3, hC.1, hC.2⟩
      unfold Oper.quietAt execOp; rw [hop]
      have e1 : xs.map a.eval = vs.toArray := by apply Array.ext'; simpa using q.evs hx
      have e2 : vs.toArray ++ cap = (vs ++ cap.toList).toArray := by apply Array.ext'; simp
      simp only [resolve, q.ev hf, e1, Deferred.ofValue, Sem.run_bind, Sem.run_pure, Result.andThen_ok, invoke, Array.empty_append, e2, ci.ent]
      refine ⟨rfl, Calls.mono (hc a w q).ret.calls ?_⟩
      rintro e w' ⟨_, _, rfl, hb, _⟩
      exact ⟨rfl, q.below.trans (hb.mono q.base), q.own.below hb⟩
    · rw [hd]
      exact hK _ (h _ (by simp [Act.put, h1]) h2 (put_regs h1 h3 ht))
theorem isOpsQ (h : UQ P w0 n d R H ops K (o :: rest)) : UQ P w0 n d R H ops K (o :: rest) := h
end
end Go.Proofs.YtdigopgncfhiaaaDoor
