/- Arrays of one's own that are written into; calls that are handed memory; maps; ranges over functions. -/
import Derived.Test.YtdigopgncfhiaaaDoorA4
import Derived.Maps.RangeRun
import Derived.Lib.SliceRun
import Derived.RangeFuncIn
import Derived.RangeFuncRecord
import Derived.RangeFuncSeq
namespace Go.Proofs.YtdigopgncfhiaaaDoor
variable {ro : Option Nat}
open Go.RowKit
open Go.ChangeMaps (setBlock)
set_option maxRecDepth 20000
set_option linter.unusedSimpArgs false
set_option linter.unusedVariables false
/-- the world as it was ahead of block g -/
def cutW (w : World) (g : Nat) : World := { w with heap := w.heap.extract 0 g }
theorem put1_left : ∀ (vs a b : List Value) (off : Nat), off + vs.length ≤ a.length → put1 (a ++ b) off vs = put1 a off vs ++ b
  | [], _, _, _, _ => rfl
  | v :: r, a, b, off, h => by
    simp only [List.length_cons] at h
    simp only [put1]
    rw [List.set_append_left _ _ (by omega), put1_left r _ b (off + 1) (by simp; omega)]
theorem put1_right : ∀ (vs a b : List Value) (off : Nat), put1 (a ++ b) (a.length + off) vs = a ++ put1 b off vs
  | [], _, _, _ => rfl
  | v :: r, a, b, off => by
    simp only [put1]
    rw [List.set_append_right _ _ (by omega), show a.length + off - a.length = off by omega, show a.length + off + 1 = a.length + (off + 1) by omega, put1_right r a _ (off + 1)]
theorem flat_put {α : Type} {enc : α → List Value} {k : Nat} (henc : ∀ x, (enc x).length = k) (vs tail : List Value) (j : Nat) (x' : α) : ∀ (xs : List α) (i : Nat) (x : α), xs[i]? = some x → put1 (enc x) j vs = enc x' → j + vs.length ≤ k → put1 (xs.flatMap enc ++ tail) (i * k + j) vs = (xs.set i x').flatMap enc ++ tail
  | [], i, x, h, _, _ => by simp at h
  | y :: r, 0, x, h, h1, h2 => by
    simp at h; subst h
    simp only [List.flatMap_cons, List.set_cons_zero, List.append_assoc, Nat.zero_mul, Nat.zero_add]
    rw [put1_left _ _ _ _ (by rw [henc]; exact h2), h1]
  | y :: r, i + 1, x, h, h1, h2 => by
    have ih := flat_put henc vs tail j x' r i x (by simpa using h) h1 h2
    simp only [List.flatMap_cons, List.set_cons_succ, List.append_assoc]
    rw [show (i + 1) * k + j = (enc y).length + (i * k + j) by rw [henc, Nat.succ_mul]; omega, put1_right, ih]
/-- an array of one's own, with room behind it perhaps -/
def Ent.arr {α : Type} (enc : α → List Value) (k : Nat) (g : Nat) (xs : List α) : Ent :=
  ⟨(· = g), fun w => ∃ tail : List Value, Blk w g (xs.flatMap enc ++ tail).toArray, fun _ _ _ h ⟨tl, hp⟩ => ⟨tl, hp.same (h g rfl)⟩⟩
class TakeA (H : List Ent) (g : Nat) {α : outParam Type} (enc : outParam (α → List Value)) (k : outParam Nat) (xs : outParam (List α)) (H' : outParam (List Ent)) : Prop where tk : Take H (.arr enc k g xs) H'
instance (priority := high) takeA_here {H : List Ent} {g : Nat} {α : Type} {enc : α → List Value} {k : Nat} {xs : List α} : TakeA (.arr enc k g xs :: H) g enc k xs H := ⟨Take.here _ _⟩
instance takeA_there {H H' : List Ent} {e : Ent} {g : Nat} {α : Type} {enc : α → List Value} {k : Nat} {xs : List α} [i : TakeA H g enc k xs H'] : TakeA (e :: H) g enc k xs (e :: H') := ⟨Take.there _ i.tk⟩
section
variable {P : Program} {w0 : World} {n : Nat} {d : List Deferred} {R : List (Nat × Value)} {H H' : List Ent} {Q : Exit → Act → World → Prop} {ops : Array Oper} {rest : List Oper} {o : Oper} {t : Tmp} {x y : Operand} {X : Act → World → Prop}
instance srcI_arr {g i k : Nat} {α : Type} {enc : α → List Value} {xs : List α} {z : α} [ei : EncI enc k] [i1 : TakeA H g enc k xs H'] [i2 : GetI xs i z] : SrcI w0 H g (0 + i * k) (enc z) := ⟨fun w hb ho j v hv => by
  obtain ⟨tl, hB⟩ := (ho.here _ i1.tk.mem : ∃ tail : List Value, Blk w g (xs.flatMap enc ++ tail).toArray)
  have h1 := flat_at ei.len xs i z i2.get j v hv
  rw [hB.cell]
  have hlt := (List.getElem?_eq_some_iff.1 h1).1
  rw [show 0 + i * k + j = i * k + j by omega]
  simp only [List.getElem?_toArray]
  rw [List.getElem?_append_left hlt]
  exact h1⟩
theorem u_storeA {α : Type} {enc : α → List Value} {k g i j s : Nat} {T1 : TypeId} {td : TypeDesc} {gg : Bool} {xs : List α} {z : α} {v : Value} (z' : α) (hop : o.op = .store T1 x y) [i1 : TyI P T1 td s gg] (hw : want R ops o = some true) (hd : o.dst = none) (hx : evR R x = some (.pointer (some ⟨g, 0 + i * k + j, none⟩))) (hy : evR R y = some v) [ei : EncI enc k] [i2 : TakeA H g enc k xs H'] [i3 : GetI xs i z]
    (hc : put1 (enc z) j v.cells.toList = enc z') (hv : Nat.beq v.cells.toList.length s = true) (h1 : v.cells.toList.all Value.oneCell' = true) (hj : j + s ≤ k)
    (h : U w0 n d R (.arr enc k g (xs.set i z') :: H') (wpL ro P ops Q rest)) : U w0 n d R H (wpL ro P ops Q (o :: rest)) := fun a w q => by
  have ho := q.own.take i2.tk
  obtain ⟨tl, hB⟩ := (ho.here (.arr enc k g xs) (by simp) : ∃ tail : List Value, Blk w g (xs.flatMap enc ++ tail).toArray)
  have hs : v.cells.toList.length = s := Nat.eq_of_beq_eq_true hv
  have q2 : Kn w0 n d R (.blk g (xs.flatMap enc ++ tl) :: H') a w := q.heap q.below (ho.recast (fun _ => hB) (fun b hb => hb))
  have hlen : i * k + k ≤ (xs.flatMap enc).length := by
    have : (xs.flatMap enc).length = xs.length * k := by simp [List.length_flatMap, ei.len, List.map_const', List.sum_replicate_nat]
    have hi := (List.getElem?_eq_some_iff.1 i3.get).1
    rw [this, ← Nat.succ_mul]
    exact Nat.mul_le_mul_right k hi
  refine u_store hop hw hd hx hy (Take.here _ _) hv h1 (Nat.ble_eq_true_of_le (by rw [List.length_append]; omega)) (cs' := (xs.set i z').flatMap enc ++ tl) (by
    rw [show 0 + i * k + j = i * k + j by omega]
    exact flat_put ei.len _ tl j z' xs i z i3.get hc (by rw [hs]; exact hj)) ?_ a w q2
  intro a' w' q'
  exact h a' w' (q'.heap q'.below (q'.own.recast (fun hp => ⟨tl, hp⟩) (fun b hb => hb)))
/-- a row that isn't empty, as an array -/
theorem u_row_arr {α : Type} {enc : α → List Value} {k e : Nat} {A : Option Addr} {m c : Nat} {xs : List α} (ht : Take H (.row enc k e (.slice A m c) xs) H') (h0 : 0 < xs.length) (h : ∀ g, A = some ⟨g, 0, none⟩ → U w0 n d R (.arr enc k g xs :: H') X) : U w0 n d R H X := fun a w q => by
  have ho := q.own.take ht
  obtain ⟨h1, h2⟩ := (ho.here (.row enc k e (.slice A m c) xs) (by simp) : Row enc k e 0 w (.slice A m c) xs)
  rcases h2 with ⟨_, h2⟩ | ⟨g, cap, cur, hv, _, hg, _, _, _, h8⟩
  · omega
  · cases hv
    have hB : Blk w g (xs.flatMap enc ++ cur.toList.drop (xs.length * k)).toArray := by
      unfold Blk
      refine ⟨e, ?_⟩
      rw [hg, ← h8, List.take_append_drop]
    exact h g rfl a w (q.heap q.below (ho.recast (fun _ => ⟨_, hB⟩) (fun b hb => by cases hb; rfl)))
theorem Own.arr_sl {α : Type} {enc : α → List Value} {k base g : Nat} [ei : EncI enc k] {w : World} {xs : List α} (ht : Take H (.arr enc k g xs) H') (h : Own base w H) : Own base w (.sl enc k (some ⟨g, 0, none⟩) xs :: H') := by
  refine (h.take ht).recast (fun hp => ?_) ?_
  · obtain ⟨tl, hB⟩ := hp
    intro i z hz
    refine ⟨g, 0, rfl, hB.lt, fun j v hv => ?_⟩
    have h1 := flat_at ei.len xs i z hz j v hv
    rw [hB.cell]
    have hlt := (List.getElem?_eq_some_iff.1 h1).1
    simp only [List.getElem?_toArray, Nat.zero_add]
    rw [List.getElem?_append_left hlt]
    exact h1
  · rintro b ⟨o, hA⟩
    cases hA
    rfl
end
open Go.RowKit
open Go.ChangeMaps (setBlock)
set_option linter.unusedSimpArgs false
set_option linter.unusedVariables false
/-- the blocks of some entries -/
def feet (H : List Ent) (b : Nat) : Prop := ∃ e ∈ H, e.S b
/-- blocks that are as they were -/
def Ent.oldx (w : World) (lo : Nat) (S : Nat → Prop) : Ent :=
  ⟨fun b => (lo ≤ b ∧ b < w.heap.size) ∧ ¬ S b, fun w' => w.heap.size ≤ w'.heap.size ∧ ∀ b, (lo ≤ b ∧ b < w.heap.size) ∧ ¬ S b → w'.heap[b]? = w.heap[b]?, fun _ _ hs h hp => ⟨Nat.le_trans hp.1 hs, fun b hb => (h b hb).trans (hp.2 b hb)⟩⟩
/-- What a call returns that is handed the entries H: V x for some x of which p; memory then holds C x, of the same blocks and new ones. -/
def RetFQ {α : Type} (w : World) (H : List Ent) (V : α → Value) (C : α → List Ent) (p : α → Prop) (e : Ending) (w' : World) : Prop :=
  ∃ x, p x ∧ e = .returned (V x) ∧ (w'.os = w.os ∧ w'.tape = w.tape ∧ w'.output = w.output ∧ w.heap.size ≤ w'.heap.size) ∧ (∀ b, b < w.heap.size → ¬ feet H b → w'.heap[b]? = w.heap[b]?) ∧ Own 0 w' (C x) ∧ ∀ b, feet (C x) b → feet H b ∨ w.heap.size ≤ b
def RetF (P : Program) (f : FuncId) (args : List Value) (w : World) (H : List Ent) {α : Type} (V : α → Value) (C : α → List Ent) (p : α → Prop) : Prop :=
  Calls P f args.toArray w (RetFQ w H V C p)
theorem RetF.calls {P : Program} {f : FuncId} {args : List Value} {w : World} {H : List Ent} {α : Type} {V : α → Value} {C : α → List Ent} {p : α → Prop} (h : RetF P f args w H V C p) : Calls P f args.toArray w (RetFQ w H V C p) := h
theorem RetF.of {P : Program} {f : FuncId} {args : List Value} {w : World} {H : List Ent} {α : Type} {V : α → Value} {C : α → List Ent} {p : α → Prop} (h : Calls P f args.toArray w (RetFQ w H V C p)) : RetF P f args w H V C p := h
attribute [irreducible] RetF
theorem cutW_sizeL {w : World} {g : Nat} (h : g ≤ w.heap.size) : (cutW w g).heap.size = g := by simp [cutW]; omega
theorem cutW_belowL {w : World} {g : Nat} (h : g ≤ w.heap.size) : Below (cutW w g).heap.size (cutW w g) w :=
  ⟨rfl, rfl, rfl, by rw [cutW_sizeL h]; omega, fun k hk => by
    rw [cutW_sizeL h] at hk
    simp only [cutW, Array.getElem?_extract]
    rw [if_pos (by omega)]; simp⟩
theorem Own.base {base base' : Nat} {w : World} {H : List Ent} (h : Own base w H) (hb : ∀ b, feet H b → base' ≤ b) : Own base' w H :=
  ⟨h.here, fun e he b hS => ⟨hb b ⟨e, he, hS⟩, (h.foot e he b hS).2⟩, h.apart⟩
section
variable {P : Program} {w0 : World} {n : Nat} {d : List Deferred} {R : List (Nat × Value)} {H H' H1 H2 : List Ent} {Q : Exit → Act → World → Prop} {ops : Array Oper} {rest : List Oper} {o : Oper} {t : Tmp} {x y z : Operand} {v : Value}
theorem ret_enterF {α : Type} {f : FuncId} {fn : Func} {c : Code} {args : List Value} {w : World} {V : α → Value} {C : α → List Ent} {p : α → Prop} {n : Nat} (lo : Nat) (hlo : lo ≤ w.heap.size) (hO : Own lo w H) (hf : P.funcs[f]? = some fn) (hb : fn.body = some c) (hnn : fn.ntmps = n) (hn : Nat.ble args.length n = true)
    (h : U (cutW w lo) n [] (argsR 0 args) (H ++ [.oldx w lo (feet H)]) (c.wpI none P (bodyP P fn (RetFQ w H V C p)))) : RetF P f args w H V C p :=
  RetF.of <| (callsIn_wide (n := 9)).1 <| callsIn_of_wp_marks hf hb trivial (h _ _ ⟨by have := Nat.le_of_ble_eq_true hn; simp; omega, rfl, fun t v ht => by
    have := argsR_get args 0 t v ht
    obtain ⟨_, h2⟩ := this
    simp only [Nat.sub_zero] at h2
    have hlt : t < args.length := by
      rcases Nat.lt_or_ge t args.length with h | h
      · exact h
      · rw [List.getElem?_eq_none h] at h2; cases h2
    rw [Array.getD_eq_getD_getElem?, Array.getElem?_append_left (by simpa using hlt)]
    simp [h2], cutW_belowL hlo, by
    rw [cutW_sizeL hlo]
    refine Own.append.2 ⟨hO, ⟨fun e he => ?_, fun e he b hb => ?_, by simp⟩, fun e he f hf b hb hb' => ?_⟩
    · simp only [List.mem_singleton] at he; subst he; exact ⟨Nat.le_refl _, fun b _ => rfl⟩
    · simp only [List.mem_singleton] at he; subst he; exact hb.1
    · simp only [List.mem_singleton] at hf; subst hf; exact hb'.2 ⟨e, he, hb⟩⟩)
theorem u_doneF {α : Type} {fn : Func} {V : α → Value} {C : α → List Ent} {p : α → Prop} {vs : List Value} {w : World} {lo : Nat} {H0 : List Ent} (hres : ResL P (cutW w lo) R H fn.results.toList vs) (z : α) (hp : p z) (hV : V z = resV vs) (hlo : lo ≤ w.heap.size)
    (ho : ∀ w', Own lo w' H → Own lo w' (C z ++ [.oldx w lo (feet H0)])) : U (cutW w lo) n [] R H (bodyP P fn (RetFQ w H0 V C p) .ret) := fun a w' q => by
  have hq := q.own
  rw [cutW_sizeL hlo] at hq
  have hH := ho _ hq
  obtain ⟨hc, hol, hap⟩ := Own.append.1 hH
  have hsz : w.heap.size ≤ w'.heap.size := (hol.here (.oldx w lo (feet H0)) (by simp)).1
  show LeavesInM Fence.wide 9 P fn a.tmps _ a.defers .returning w'
  rw [q.defers]
  refine ⟨resV vs, results_run q hres, z, hp, by rw [hV], ⟨q.below.os, q.below.tape, q.below.output, hsz⟩, fun b hb hne => ?_, ⟨hc.here, fun e he b hS => ⟨Nat.zero_le _, (hc.foot e he b hS).2⟩, hc.apart⟩, fun b hb => ?_⟩
  · rcases Nat.lt_or_ge b lo with h | h
    · have := q.below.block b (by rw [cutW_sizeL hlo]; exact h)
      exact this.trans ((cutW_belowL hlo).block b (by rw [cutW_sizeL hlo]; exact h)).symm
    · exact (hol.here (.oldx w lo (feet H0)) (by simp)).2 b ⟨⟨h, hb⟩, hne⟩
  · rcases Nat.lt_or_ge b w.heap.size with h | h
    · refine .inl (Classical.byContradiction fun hn => ?_)
      obtain ⟨e, he, hS⟩ := hb
      exact hap e he (.oldx w lo (feet H0)) (by simp) b hS ⟨⟨(hc.foot e he b hS).1, h⟩, hn⟩
    · exact .inr h
theorem u_endF {α : Type} {fn : Func} {V : α → Value} {C : α → List Ent} {p : α → Prop} {w w0 : World} {H0 : List Ent} (h : U w0 n d R H (bodyP P fn (RetFQ w H0 V C p) .ret)) : U w0 n d R H (bodyP P fn (RetFQ w H0 V C p) .normal) := h
theorem own_call {base : Nat} {w w' : World} {H2 H' E : List Ent} (hH : Own base w (H2 ++ H')) (hB : base ≤ w.heap.size) (h4 : w.heap.size ≤ w'.heap.size) (h5 : ∀ b, b < w.heap.size → ¬ feet H2 b → w'.heap[b]? = w.heap[b]?) (h6 : Own 0 w' E) (h7 : ∀ b, feet E b → feet H2 b ∨ w.heap.size ≤ b) : Own base w' (E ++ H') := by
  obtain ⟨a1, a2, a3⟩ := Own.append.1 hH
  refine Own.append.2 ⟨⟨h6.here, fun e he b hS => ⟨?_, (h6.foot e he b hS).2⟩, h6.apart⟩, a2.past h4 (fun e he b hS => h5 b (a2.foot e he b hS).2 ?_), fun e he f hf b hb hb' => ?_⟩
  · rcases h7 b ⟨e, he, hS⟩ with ⟨f, hf, hS'⟩ | h
    · exact (a1.foot f hf b hS').1
    · omega
  · rintro ⟨f, hf, hS'⟩
    exact a3 f hf e he b hS' hS
  · rcases h7 b ⟨e, he, hb⟩ with ⟨g, hg, hS'⟩ | h
    · exact a3 g hg f hf b hS' hb'
    · have := (a2.foot f hf b hb').2; omega
/-- a call that is handed the entries H2 -/
theorem u_callF {f : FuncId} {fx : Operand} {xs : Array Operand} {ts : Array TypeId} {vs : List Value} {cap : Array Value} {α : Type} {V : α → Value} {C : α → List Ent} {p : α → Prop} (H2 H' : List Ent) (hop : o.op = .call ⟨.value fx, xs, ts⟩) (hw : want R ops o = some true) (hd : o.dst = some t) (ht : Nat.blt t n = true) (hf : evR R fx = some (.func (.func f) #[] cap)) (hx : evs R xs.toList = some vs) [ci : CallI P f] (hs : Out H (H2 ++ H'))
    (hc : ∀ a w, Kn w0 n d R (H2 ++ H') a w → RetF P f (vs ++ cap.toList) w H2 V C p) (h : ∀ x, p x → U w0 n d ((t, V x) :: R) (C x ++ H') (wpL ro P ops Q rest)) : U w0 n d R H (wpL ro P ops Q (o :: rest)) :=
  u_op hw fun a w q K hK => by
    unfold Oper.wp execOp; rw [hop]
    have e1 : xs.map a.eval = vs.toArray := by apply Array.ext'; simpa using q.evs hx
    have e2 : vs.toArray ++ cap = (vs ++ cap.toList).toArray := by apply Array.ext'; simp
    simp only [resolve, q.ev hf, e1, Deferred.ofValue, Sem.run_bind, Sem.run_pure, Result.andThen_ok, invoke, Array.empty_append, e2, ci.ent, Oper.upon_enter, hd]
    have q2 := q.sub (fun _ _ h => h) hs
    refine Calls.mono (hc a w q2).calls ?_
    rintro e w' ⟨z, hp, rfl, ⟨h1, h2, h3, h4⟩, h5, h6, h7⟩
    refine hK _ _ (h z hp _ _ ((q.heap (q.below.trans ⟨h1, h2, h3, h4, fun b hb => h5 b (by have := q.base; omega) ?_⟩) (own_call q2.own q.base h4 h5 h6 h7)).put ht))
    rintro ⟨e, he, hS⟩
    have := (q2.own.foot e (List.mem_append_left _ he) b hS).1
    omega
end
/-! ### maps -/
def Ent.map (m : Nat) (es : Array MapEntry) (c : Nat) : Ent := ⟨(· = m), fun w => w.heap[m]? = some (.map es c), fun _ _ _ h hp => (h m rfl).trans hp⟩
theorem run_checkKey_int {P : Program} {w : World} {e : Bool} {N : Nat} {kt : TypeId} {kd : IntKind} {i : Int} (hk : P.underlying kt = some (.int kd)) : (Instr.checkKey e (N + 1) kt (.int kd i)).run P w = .ok () w := by
  have e1 := run_underlying hk w
  simp [Instr.checkKey, e1, Sem.run_bind]
section
variable {P : Program} {w0 : World} {n : Nat} {d : List Deferred} {R : List (Nat × Value)} {H H' H1 H2 : List Ent} {Q : Exit → Act → World → Prop} {ops : Array Oper} {rest : List Oper} {o : Oper} {t : Tmp} {x y z : Operand} {v : Value}
theorem below_setBlk {w : World} {r : Nat} {ob : Obj} {B : Nat} (hr : B ≤ r) : Below B w (setBlock w r ob) :=
  ⟨rfl, rfl, rfl, by simp [setBlock], fun b hb => by
    simp only [setBlock]
    rw [Array.getElem?_setIfInBounds_ne (by omega)]⟩
end
end Go.Proofs.YtdigopgncfhiaaaDoor
/-! ### ranges over functions -/
namespace Go.Proofs.YtdigopgncfhiaaaDoor
variable {ro : Option Nat}
open Go.RowKit
set_option linter.unusedSimpArgs false
set_option linter.unusedVariables false
/-- a list of entries as one -/
def Ent.all (L : List Ent) : Ent := ⟨feet L, fun w => Own 0 w L, fun _ _ hs h hp => hp.past hs fun e he b hb => h b ⟨e, he, hb⟩⟩
theorem own_all {base : Nat} {w : World} {L B : List Ent} : Own base w (L ++ B) ↔ Own base w (.all L :: B) := by
  constructor
  · intro h
    obtain ⟨h1, h2, h3⟩ := Own.append.1 h
    refine ⟨fun e he => ?_, fun e he b hb => ?_, List.pairwise_cons.2 ⟨fun f hf b hb hb' => ?_, h2.apart⟩⟩
    · rcases List.mem_cons.1 he with rfl | he
      · exact ⟨h1.here, fun e he b hb => ⟨Nat.zero_le _, (h1.foot e he b hb).2⟩, h1.apart⟩
      · exact h2.here e he
    · rcases List.mem_cons.1 he with rfl | he
      · obtain ⟨f, hf, hS⟩ := hb
        exact h1.foot f hf b hS
      · exact h2.foot e he b hb
    · obtain ⟨e, he, hS⟩ := hb
      exact h3 e he f hf b hS hb'
  · intro h
    have h0 : Own 0 w L := h.here (.all L) (by simp)
    obtain ⟨a1, a2⟩ := List.pairwise_cons.1 h.apart
    exact Own.append.2 ⟨⟨h0.here, fun e he b hb => ⟨(h.foot (.all L) (by simp) b ⟨e, he, hb⟩).1, (h0.foot e he b hb).2⟩, h0.apart⟩, h.tail, fun e he f hf b hb hb' => a1 f hf b ⟨e, he, hb⟩ hb'⟩
theorem own_mid {base : Nat} {w : World} {D L B : List Ent} : Own base w ((D ++ L) ++ B) ↔ Own base w (D ++ .all L :: B) := by
  rw [List.append_assoc]
  constructor
  · intro h
    obtain ⟨h1, h2, h3⟩ := Own.append.1 h
    refine Own.append.2 ⟨h1, own_all.1 h2, fun e he f hf b hb hb' => ?_⟩
    rcases List.mem_cons.1 hf with rfl | hf
    · obtain ⟨g, hg, hS⟩ := hb'
      exact h3 e he g (List.mem_append_left _ hg) b hb hS
    · exact h3 e he f (List.mem_append_right _ hf) b hb hb'
  · intro h
    obtain ⟨h1, h2, h3⟩ := Own.append.1 h
    refine Own.append.2 ⟨h1, own_all.2 h2, fun e he f hf b hb hb' => ?_⟩
    rcases List.mem_append.1 hf with hf | hf
    · exact h3 e he (.all L) (by simp) b hb ⟨f, hf, hb'⟩
    · exact h3 e he f (List.mem_cons_of_mem _ hf) b hb hb'
section
variable {P : Program} {w0 : World} {n : Nat} {d : List Deferred} {R : List (Nat × Value)} {H H' H1 H2 : List Ent} {Q : Exit → Act → World → Prop} {ops : Array Oper} {rest : List Oper} {o : Oper} {t : Tmp} {x y z : Operand} {v : Value}
theorem lk_append {A B : List (Nat × Value)} {t : Nat} : lk (A ++ B) t = (lk A t).or (lk B t) := by
  induction A with
  | nil => simp [lk]
  | cons p A ih =>
    obtain ⟨u, v⟩ := p
    simp only [List.cons_append, lk]
    cases Nat.beq u t <;> simp [ih]
end
end Go.Proofs.YtdigopgncfhiaaaDoor
/-! ### loops whose registers are kept by their numbers -/
namespace Go.Proofs.YtdigopgncfhiaaaDoor
variable {ro : Option Nat}
open Go.RowKit
set_option linter.unusedSimpArgs false
set_option linter.unusedVariables false
theorem cells_by {base b : Nat} {cs cs' : List Value} {H H' : List Ent} {w W : World} (ho : Own base w H) [i : TakeB H b cs H'] (hW : Below w.heap.size w W) (e : cs = cs') : InC W b 0 cs' := e ▸ cells_of ho hW
def lkAll (R : List (Nat × Value)) : List Nat → Option (List Value)
  | [] => some []
  | t :: K => match lk R t, lkAll R K with | some v, some vs => some (v :: vs) | _, _ => none
def zipR : List Nat → List Value → List (Nat × Value)
  | t :: K, v :: vs => (t, v) :: zipR K vs
  | _, _ => []
theorem lk_zip {R : List (Nat × Value)} : ∀ {K : List Nat} {vs : List Value}, lkAll R K = some vs → ∀ t v, lk (zipR K vs) t = some v → lk R t = some v
  | [], vs, h, t, v, hl => by simp [zipR, lk] at hl
  | k :: K, vs, h, t, v, hl => by
    simp only [lkAll] at h
    cases h1 : lk R k with
    | none => rw [h1] at h; simp at h
    | some x =>
      cases h2 : lkAll R K with
      | none => rw [h1, h2] at h; simp at h
      | some ys =>
        rw [h1, h2] at h
        simp only [Option.some.injEq] at h
        subst h
        simp only [zipR] at hl
        by_cases e : k = t
        · subst e; rw [lk_cons_eq] at hl; cases hl; exact h1
        · rw [lk_cons_ne e] at hl; exact lk_zip h2 t v hl
section
variable {P : Program} {w0 : World} {n : Nat} {d : List Deferred} {R : List (Nat × Value)} {H H' : List Ent} {Q : Exit → Act → World → Prop}
/-- a loop: ex are the registers that turn, K those that stay -/
theorem u_loopP {ι : Type} {c : Code} (K : List Nat) {vs : List Value} (hK : lkAll R K = some vs) (I : ι → Prop) (ex : ι → List (Nat × Value)) (Hf : ι → List Ent) (μ : ι → Nat) (i0 : ι) (h0 : I i0) (hR : ∀ t v, lk (ex i0) t = some v → lk R t = some v) (hH : Out H (Hf i0))
    (body : ∀ i, I i → U w0 n d (ex i ++ zipR K vs) (Hf i) (c.wpI ro P (Exit.then (fun a w => ∃ j, I j ∧ μ j < μ i ∧ Kn w0 n d (ex j ++ zipR K vs) (Hf j) a w) Q))) : U w0 n d R H ((Code.loop c).wpI ro P Q) :=
  u_loop I (fun i => ex i ++ zipR K vs) Hf μ i0 h0 (fun t v h => by
    rw [lk_append] at h
    cases h1 : lk (ex i0) t with
    | none => rw [h1] at h; exact lk_zip hK t v (by simpa using h)
    | some x => rw [h1] at h; simp at h; subst h; exact hR t _ h1) hH body
end
end Go.Proofs.YtdigopgncfhiaaaDoor
/-! ### stores in the midst of a chain -/
namespace Go.Proofs.YtdigopgncfhiaaaDoor
variable {ro : Option Nat}
open Go.RowKit
set_option linter.unusedSimpArgs false
set_option linter.unusedVariables false
section
variable {S : Pend} {P : Program} {w0 : World} {n : Nat} {d : List Deferred} {R R0 : List (Nat × Value)} {H H' H0 : List Ent} {Q : Exit → Act → World → Prop} {ops : Array Oper} {bs : List (List Bool)} {b : List Bool} {k : Nat} {o : Oper} {rest : List Oper} {T : List Rw} {t : Tmp} {x y : Operand} {v : Value} {X : Act → World → Prop}
theorem u_own (hs : ∀ w, Own w0.heap.size w H → Own w0.heap.size w H') (h : U w0 n d R H' X) : U w0 n d R H X := fun a w q => h a w (q.heap q.below (hs w q.own))
theorem u_slS {α : Type} {enc : α → List Value} {kk : Nat} {A : Option Addr} {xs : List α} (ht : Take H (.sl enc kk A xs) H') (h0 : 0 < xs.length) (h : ∀ b o, A = some ⟨b, o, none⟩ → U w0 n d R H X) : U w0 n d R H X := fun a w q => by
  have hs : SlAt enc kk w A xs := q.own.here (.sl enc kk A xs) ht.mem
  obtain ⟨b, o, hA, _⟩ := hs.at_ h0
  exact h b o hA a w q
theorem stores_at {T1 : TypeId} {td : TypeDesc} {s bm off : Nat} {g : Bool} {cs cs' : List Value} {L : List Ent} {F : List Ent} {a : Act} {w : World} (hop : o.op = .store T1 x y) [i1 : TyI P T1 td s g] (hw : want R ops o = some true) (hd : o.dst = none) (hx : evR R x = some (.pointer (some ⟨bm, off, none⟩))) (hy : evR R y = some v)
    (hv : Nat.beq v.cells.toList.length s = true) (hv1 : v.cells.toList.all Value.oneCell' = true) (hl : Nat.ble (off + s) cs.length = true) (hc : put1 cs off v.cells.toList = cs') (q : Kn w0 n d R F a w) (ho : Own w0.heap.size w (.blk bm cs :: L)) {K : Act → World → Prop}
    (hK : ∀ w', Below w0.heap.size w0 w' → Own w0.heap.size w' (.blk bm cs' :: L) → K a w') : if Region.wanted o (yielded ops a.tmps) = true then o.wp P a w K (fun _ _ _ => False) else K (a.put o.dst undef) w := by
  rw [want_ok q hw, if_pos rfl]
  have hb : Blk w bm cs.toArray := ho.here (.blk bm cs) (by simp)
  have hs : v.cells.toList.length = s := Nat.eq_of_beq_eq_true hv
  have hlen := Nat.le_of_ble_eq_true hl
  have e1 := i1.siz w
  obtain ⟨g1, g2, g3, g4, g5, g6⟩ := heap_setCells bm v.cells.toList off w cs hb
  have hfoot : w0.heap.size ≤ bm := (ho.foot (.blk bm cs) (by simp) bm rfl).1
  have hrun : (Instr.storeAt T1 (.pointer (some ⟨bm, off, none⟩)) v).run P w = .ok () (w.setCells bm off v.cells.toList) := by
    have := run_storeCells_cells (P := P) bm off v.cells.toList 0 w (fun j hj => by have h9 : off + j < cs.length := (by omega); rw [hb.cell]; simp [h9]) (fun j hj => hb.frozen _) (fun u hu => List.all_eq_true.1 hv1 u hu)
    simp only [Nat.add_zero] at this
    have hsz : ¬ v.cells.size ≠ s := by simpa using hs
    unfold Instr.storeAt storeVar
    simp only [Sem.run_bind, Instr.sureAddr, Sem.run_pure, Result.andThen_ok, e1, Sem.run_ite, hsz, if_false, this]
  unfold Oper.wp execOp; rw [hop]
  simp only [Sem.run_bind, q.ev hx, q.ev hy, hrun, Result.andThen_ok, Sem.run_pure, Oper.upon_skip, hd]
  refine hK _ ?_ ?_
  · exact q.below.trans ⟨g2, g3, g4, by omega, fun k hk => g6 k (by omega)⟩
  · exact ho.turn (by omega) (fun k hk hn => g6 k hn) q.base (hc ▸ g1) (fun k hk => by
      cases hk
      exact ⟨.inl rfl, by rw [g5]; exact (ho.foot (.blk bm cs) (by simp) bm rfl).2⟩)
end
end Go.Proofs.YtdigopgncfhiaaaDoor
/- What the seat's types and functions are to the walk's rules. -/
namespace Go.Proofs.YtdigopgncfhiaaaDoor
open Go.RowKit
set_option maxRecDepth 20000
instance : TyI Tryd.prog 0 (TypeDesc.tuple #[]) 1 false := ⟨Tryd.underlying0, Tryd.sizeOf0, Tryd.isAgg0⟩
instance : TyI Tryd.prog 1 (TypeDesc.func #[] #[] false) 1 false := ⟨Tryd.underlying1, Tryd.sizeOf1, Tryd.isAgg1⟩
instance : TyI Tryd.prog 2 (TypeDesc.int Go.IntKind.i64) 1 false := ⟨Tryd.underlying2, Tryd.sizeOf2, Tryd.isAgg2⟩
instance : TyI Tryd.prog 3 (TypeDesc.int Go.IntKind.i64) 1 false := ⟨Tryd.underlying3, Tryd.sizeOf3, Tryd.isAgg3⟩
instance : TyZ Tryd.prog 3 [Value.int Go.IntKind.i64 0] := ⟨fun w => ⟨_, Tryd.zeroValue3 w, rfl⟩⟩
instance : TyI Tryd.prog 4 TypeDesc.bool 1 false := ⟨Tryd.underlying4, Tryd.sizeOf4, Tryd.isAgg4⟩
instance : TyZ Tryd.prog 4 [Value.bool false] := ⟨fun w => ⟨_, Tryd.zeroValue4 w, rfl⟩⟩
instance : TyI Tryd.prog 5 (TypeDesc.int Go.IntKind.u8) 1 false := ⟨Tryd.underlying5, Tryd.sizeOf5, Tryd.isAgg5⟩
instance : TyI Tryd.prog 9 TypeDesc.string 1 false := ⟨Tryd.underlying9, Tryd.sizeOf9, Tryd.isAgg9⟩
instance : TyI Tryd.prog 22 (TypeDesc.slice 114) 1 false := ⟨Tryd.underlying22, Tryd.sizeOf22, Tryd.isAgg22⟩
instance : TyZ Tryd.prog 22 [Value.slice none 0 0] := ⟨fun w => ⟨_, Tryd.zeroValue22 w, rfl⟩⟩
instance : TyI Tryd.prog 24 (TypeDesc.struct #[{ name := "Stretches", type := 22, offset := 0, embedded := false, tag := "", pkgPath := "", byteOffset := 0 }]) 1 true := ⟨Tryd.underlying24, Tryd.sizeOf24, Tryd.isAgg24⟩
instance : TyZ Tryd.prog 24 [Value.slice none 0 0] := ⟨fun w => ⟨_, Tryd.zeroValue24 w, rfl⟩⟩
instance : TyB Tryd.prog 24 [(0, 1)] [Value.slice none 0 0] := tyB_struct (zv := Value.agg #[Value.slice none 0 0]) (by kernel_rfl) rfl Tryd.underlying24 (by kernel_rfl)
instance : TyI Tryd.prog 25 (TypeDesc.slice 117) 1 false := ⟨Tryd.underlying25, Tryd.sizeOf25, Tryd.isAgg25⟩
instance : TyZ Tryd.prog 25 [Value.slice none 0 0] := ⟨fun w => ⟨_, Tryd.zeroValue25 w, rfl⟩⟩
instance : TyI Tryd.prog 26 (TypeDesc.slice 120) 1 false := ⟨Tryd.underlying26, Tryd.sizeOf26, Tryd.isAgg26⟩
instance : TyZ Tryd.prog 26 [Value.slice none 0 0] := ⟨fun w => ⟨_, Tryd.zeroValue26 w, rfl⟩⟩
instance : TyI Tryd.prog 28 (TypeDesc.struct #[{ name := "Lo", type := 3, offset := 0, embedded := false, tag := "", pkgPath := "", byteOffset := 0 }, { name := "Hi", type := 3, offset := 1, embedded := false, tag := "", pkgPath := "", byteOffset := 8 }]) 2 true := ⟨Tryd.underlying28, Tryd.sizeOf28, Tryd.isAgg28⟩
instance : TyZ Tryd.prog 28 [Value.int Go.IntKind.i64 0, Value.int Go.IntKind.i64 0] := ⟨fun w => ⟨_, Tryd.zeroValue28 w, rfl⟩⟩
instance : TyB Tryd.prog 28 [(0, 1), (1, 1)] [Value.int Go.IntKind.i64 0, Value.int Go.IntKind.i64 0] := tyB_struct (zv := Value.agg #[Value.int Go.IntKind.i64 0, Value.int Go.IntKind.i64 0]) (by kernel_rfl) rfl Tryd.underlying28 (by kernel_rfl)
instance : TyI Tryd.prog 30 (TypeDesc.struct #[{ name := "Track", type := 24, offset := 0, embedded := false, tag := "", pkgPath := "", byteOffset := 0 }, { name := "Beds", type := 25, offset := 1, embedded := false, tag := "", pkgPath := "", byteOffset := 24 }, { name := "Hours", type := 26, offset := 2, embedded := false, tag := "", pkgPath := "", byteOffset := 48 }, { name := "Wear", type := 28, offset := 3, embedded := false, tag := "", pkgPath := "", byteOffset := 72 }, { name := "Layer", type := 28, offset := 5, embedded := false, tag := "", pkgPath := "", byteOffset := 88 }, { name := "Rate", type := 3, offset := 7, embedded := false, tag := "", pkgPath := "", byteOffset := 104 }, { name := "Limit", type := 3, offset := 8, embedded := false, tag := "", pkgPath := "", byteOffset := 112 }, { name := "Base", type := 3, offset := 9, embedded := false, tag := "", pkgPath := "", byteOffset := 120 }]) 10 true := ⟨Tryd.underlying30, Tryd.sizeOf30, Tryd.isAgg30⟩
instance : TyZ Tryd.prog 30 [Value.slice none 0 0, Value.slice none 0 0, Value.slice none 0 0, Value.int Go.IntKind.i64 0, Value.int Go.IntKind.i64 0, Value.int Go.IntKind.i64 0, Value.int Go.IntKind.i64 0, Value.int Go.IntKind.i64 0, Value.int Go.IntKind.i64 0, Value.int Go.IntKind.i64 0] := ⟨fun w => ⟨_, Tryd.zeroValue30 w, rfl⟩⟩
instance : TyB Tryd.prog 30 [(0, 1), (1, 1), (2, 1), (3, 2), (5, 2), (7, 1), (8, 1), (9, 1)] [Value.slice none 0 0, Value.slice none 0 0, Value.slice none 0 0, Value.int Go.IntKind.i64 0, Value.int Go.IntKind.i64 0, Value.int Go.IntKind.i64 0, Value.int Go.IntKind.i64 0, Value.int Go.IntKind.i64 0, Value.int Go.IntKind.i64 0, Value.int Go.IntKind.i64 0] := tyB_struct (zv := Value.agg #[Value.slice none 0 0, Value.slice none 0 0, Value.slice none 0 0, Value.int Go.IntKind.i64 0, Value.int Go.IntKind.i64 0, Value.int Go.IntKind.i64 0, Value.int Go.IntKind.i64 0, Value.int Go.IntKind.i64 0, Value.int Go.IntKind.i64 0, Value.int Go.IntKind.i64 0]) (by kernel_rfl) rfl Tryd.underlying30 (by kernel_rfl)
instance : TyI Tryd.prog 33 (TypeDesc.slice 3) 1 false := ⟨Tryd.underlying33, Tryd.sizeOf33, Tryd.isAgg33⟩
instance : TyZ Tryd.prog 33 [Value.slice none 0 0] := ⟨fun w => ⟨_, Tryd.zeroValue33 w, rfl⟩⟩
instance : TyI Tryd.prog 34 (TypeDesc.int Go.IntKind.i64) 1 false := ⟨Tryd.underlying34, Tryd.sizeOf34, Tryd.isAgg34⟩
instance : TyI Tryd.prog 39 (TypeDesc.slice 33) 1 false := ⟨Tryd.underlying39, Tryd.sizeOf39, Tryd.isAgg39⟩
instance : TyZ Tryd.prog 39 [Value.slice none 0 0] := ⟨fun w => ⟨_, Tryd.zeroValue39 w, rfl⟩⟩
instance : TyI Tryd.prog 68 (TypeDesc.func #[30] #[3] false) 1 false := ⟨Tryd.underlying68, Tryd.sizeOf68, Tryd.isAgg68⟩
instance : TyI Tryd.prog 70 (TypeDesc.slice 134) 1 false := ⟨Tryd.underlying70, Tryd.sizeOf70, Tryd.isAgg70⟩
instance : TyZ Tryd.prog 70 [Value.slice none 0 0] := ⟨fun w => ⟨_, Tryd.zeroValue70 w, rfl⟩⟩
instance : TyI Tryd.prog 84 (TypeDesc.pointer 111) 1 false := ⟨Tryd.underlying84, Tryd.sizeOf84, Tryd.isAgg84⟩
instance : TyZ Tryd.prog 84 [Value.pointer none] := ⟨fun w => ⟨_, Tryd.zeroValue84 w, rfl⟩⟩
instance : TyI Tryd.prog 90 (TypeDesc.slice 95) 1 false := ⟨Tryd.underlying90, Tryd.sizeOf90, Tryd.isAgg90⟩
instance : TyZ Tryd.prog 90 [Value.slice none 0 0] := ⟨fun w => ⟨_, Tryd.zeroValue90 w, rfl⟩⟩
instance : TyI Tryd.prog 95 (TypeDesc.slice 4) 1 false := ⟨Tryd.underlying95, Tryd.sizeOf95, Tryd.isAgg95⟩
instance : TyZ Tryd.prog 95 [Value.slice none 0 0] := ⟨fun w => ⟨_, Tryd.zeroValue95 w, rfl⟩⟩
instance : TyI Tryd.prog 102 (TypeDesc.int Go.IntKind.u64) 1 false := ⟨Tryd.underlying102, Tryd.sizeOf102, Tryd.isAgg102⟩
instance : TyI Tryd.prog 105 (TypeDesc.func #[33, 33] #[3] false) 1 false := ⟨Tryd.underlying105, Tryd.sizeOf105, Tryd.isAgg105⟩
instance : TyI Tryd.prog 111 (TypeDesc.struct #[{ name := "Cover", type := 30, offset := 0, embedded := true, tag := "", pkgPath := "", byteOffset := 0 }]) 10 true := ⟨Tryd.underlying111, Tryd.sizeOf111, Tryd.isAgg111⟩
instance : TyZ Tryd.prog 111 [Value.slice none 0 0, Value.slice none 0 0, Value.slice none 0 0, Value.int Go.IntKind.i64 0, Value.int Go.IntKind.i64 0, Value.int Go.IntKind.i64 0, Value.int Go.IntKind.i64 0, Value.int Go.IntKind.i64 0, Value.int Go.IntKind.i64 0, Value.int Go.IntKind.i64 0] := ⟨fun w => ⟨_, Tryd.zeroValue111 w, rfl⟩⟩
instance : TyB Tryd.prog 111 [(0, 10)] [Value.slice none 0 0, Value.slice none 0 0, Value.slice none 0 0, Value.int Go.IntKind.i64 0, Value.int Go.IntKind.i64 0, Value.int Go.IntKind.i64 0, Value.int Go.IntKind.i64 0, Value.int Go.IntKind.i64 0, Value.int Go.IntKind.i64 0, Value.int Go.IntKind.i64 0] := tyB_struct (zv := Value.agg #[Value.slice none 0 0, Value.slice none 0 0, Value.slice none 0 0, Value.int Go.IntKind.i64 0, Value.int Go.IntKind.i64 0, Value.int Go.IntKind.i64 0, Value.int Go.IntKind.i64 0, Value.int Go.IntKind.i64 0, Value.int Go.IntKind.i64 0, Value.int Go.IntKind.i64 0]) (by kernel_rfl) rfl Tryd.underlying111 (by kernel_rfl)
instance : TyI Tryd.prog 114 (TypeDesc.struct #[{ name := "Id", type := 3, offset := 0, embedded := false, tag := "", pkgPath := "", byteOffset := 0 }, { name := "Long", type := 28, offset := 1, embedded := false, tag := "", pkgPath := "", byteOffset := 8 }, { name := "Fall", type := 28, offset := 3, embedded := false, tag := "", pkgPath := "", byteOffset := 24 }, { name := "Radius", type := 28, offset := 5, embedded := false, tag := "", pkgPath := "", byteOffset := 40 }, { name := "Side", type := 5, offset := 7, embedded := false, tag := "", pkgPath := "", byteOffset := 56 }, { name := "Wall", type := 3, offset := 8, embedded := false, tag := "", pkgPath := "", byteOffset := 64 }]) 9 true := ⟨Tryd.underlying114, Tryd.sizeOf114, Tryd.isAgg114⟩
instance : TyZ Tryd.prog 114 [Value.int Go.IntKind.i64 0, Value.int Go.IntKind.i64 0, Value.int Go.IntKind.i64 0, Value.int Go.IntKind.i64 0, Value.int Go.IntKind.i64 0, Value.int Go.IntKind.i64 0, Value.int Go.IntKind.i64 0, Value.int Go.IntKind.u8 0, Value.int Go.IntKind.i64 0] := ⟨fun w => ⟨_, Tryd.zeroValue114 w, rfl⟩⟩
instance : TyB Tryd.prog 114 [(0, 1), (1, 2), (3, 2), (5, 2), (7, 1), (8, 1)] [Value.int Go.IntKind.i64 0, Value.int Go.IntKind.i64 0, Value.int Go.IntKind.i64 0, Value.int Go.IntKind.i64 0, Value.int Go.IntKind.i64 0, Value.int Go.IntKind.i64 0, Value.int Go.IntKind.i64 0, Value.int Go.IntKind.u8 0, Value.int Go.IntKind.i64 0] := tyB_struct (zv := Value.agg #[Value.int Go.IntKind.i64 0, Value.int Go.IntKind.i64 0, Value.int Go.IntKind.i64 0, Value.int Go.IntKind.i64 0, Value.int Go.IntKind.i64 0, Value.int Go.IntKind.i64 0, Value.int Go.IntKind.i64 0, Value.int Go.IntKind.u8 0, Value.int Go.IntKind.i64 0]) (by kernel_rfl) rfl Tryd.underlying114 (by kernel_rfl)
instance : TyI Tryd.prog 117 (TypeDesc.struct #[{ name := "Thick", type := 28, offset := 0, embedded := false, tag := "", pkgPath := "", byteOffset := 0 }, { name := "Sun", type := 3, offset := 2, embedded := false, tag := "", pkgPath := "", byteOffset := 16 }]) 3 true := ⟨Tryd.underlying117, Tryd.sizeOf117, Tryd.isAgg117⟩
instance : TyZ Tryd.prog 117 [Value.int Go.IntKind.i64 0, Value.int Go.IntKind.i64 0, Value.int Go.IntKind.i64 0] := ⟨fun w => ⟨_, Tryd.zeroValue117 w, rfl⟩⟩
instance : TyB Tryd.prog 117 [(0, 2), (2, 1)] [Value.int Go.IntKind.i64 0, Value.int Go.IntKind.i64 0, Value.int Go.IntKind.i64 0] := tyB_struct (zv := Value.agg #[Value.int Go.IntKind.i64 0, Value.int Go.IntKind.i64 0, Value.int Go.IntKind.i64 0]) (by kernel_rfl) rfl Tryd.underlying117 (by kernel_rfl)
instance : TyI Tryd.prog 120 (TypeDesc.struct #[{ name := "Melt", type := 28, offset := 0, embedded := false, tag := "", pkgPath := "", byteOffset := 0 }, { name := "Runs", type := 3, offset := 2, embedded := false, tag := "", pkgPath := "", byteOffset := 16 }, { name := "Crew", type := 3, offset := 3, embedded := false, tag := "", pkgPath := "", byteOffset := 24 }, { name := "Cold", type := 4, offset := 4, embedded := false, tag := "", pkgPath := "", byteOffset := 32 }]) 5 true := ⟨Tryd.underlying120, Tryd.sizeOf120, Tryd.isAgg120⟩
instance : TyZ Tryd.prog 120 [Value.int Go.IntKind.i64 0, Value.int Go.IntKind.i64 0, Value.int Go.IntKind.i64 0, Value.int Go.IntKind.i64 0, Value.bool false] := ⟨fun w => ⟨_, Tryd.zeroValue120 w, rfl⟩⟩
instance : TyB Tryd.prog 120 [(0, 2), (2, 1), (3, 1), (4, 1)] [Value.int Go.IntKind.i64 0, Value.int Go.IntKind.i64 0, Value.int Go.IntKind.i64 0, Value.int Go.IntKind.i64 0, Value.bool false] := tyB_struct (zv := Value.agg #[Value.int Go.IntKind.i64 0, Value.int Go.IntKind.i64 0, Value.int Go.IntKind.i64 0, Value.int Go.IntKind.i64 0, Value.bool false]) (by kernel_rfl) rfl Tryd.underlying120 (by kernel_rfl)
instance : TyI Tryd.prog 134 (TypeDesc.array 2 3) 2 true := ⟨Tryd.underlying134, Tryd.sizeOf134, Tryd.isAgg134⟩
instance : TyZ Tryd.prog 134 [Value.int Go.IntKind.i64 0, Value.int Go.IntKind.i64 0] := ⟨fun w => ⟨_, Tryd.zeroValue134 w, rfl⟩⟩
instance : TyBA Tryd.prog 134 1 [Value.int Go.IntKind.i64 0, Value.int Go.IntKind.i64 0] := tyB_array (zv := Value.agg #[Value.int Go.IntKind.i64 0, Value.int Go.IntKind.i64 0]) (by kernel_rfl) rfl Tryd.underlying134 (by kernel_rfl)
instance : TyI Tryd.prog 136 (TypeDesc.func #[28, 28] #[3] false) 1 false := ⟨Tryd.underlying136, Tryd.sizeOf136, Tryd.isAgg136⟩
instance : TyI Tryd.prog 137 (TypeDesc.func #[134] #[4] false) 1 false := ⟨Tryd.underlying137, Tryd.sizeOf137, Tryd.isAgg137⟩
instance : TyI Tryd.prog 138 (TypeDesc.func #[3] #[4] false) 1 false := ⟨Tryd.underlying138, Tryd.sizeOf138, Tryd.isAgg138⟩
instance : TyI Tryd.prog 141 (TypeDesc.func #[117] #[4] false) 1 false := ⟨Tryd.underlying141, Tryd.sizeOf141, Tryd.isAgg141⟩
instance : TyI Tryd.prog 142 (TypeDesc.func #[120] #[4] false) 1 false := ⟨Tryd.underlying142, Tryd.sizeOf142, Tryd.isAgg142⟩
instance : TyI Tryd.prog 152 (TypeDesc.map 157 3) 1 false := ⟨Tryd.underlying152, Tryd.sizeOf152, Tryd.isAgg152⟩
instance : TyZ Tryd.prog 152 [Value.map none] := ⟨fun w => ⟨_, Tryd.zeroValue152 w, rfl⟩⟩
instance : TyI Tryd.prog 153 (TypeDesc.map 155 158) 1 false := ⟨Tryd.underlying153, Tryd.sizeOf153, Tryd.isAgg153⟩
instance : TyZ Tryd.prog 153 [Value.map none] := ⟨fun w => ⟨_, Tryd.zeroValue153 w, rfl⟩⟩
instance : TyI Tryd.prog 157 (TypeDesc.array 2 155) 6 true := ⟨Tryd.underlying157, Tryd.sizeOf157, Tryd.isAgg157⟩
instance : TyZ Tryd.prog 157 [Value.int Go.IntKind.i64 0, Value.int Go.IntKind.i64 0, Value.int Go.IntKind.i64 0, Value.int Go.IntKind.i64 0, Value.int Go.IntKind.i64 0, Value.int Go.IntKind.i64 0] := ⟨fun w => ⟨_, Tryd.zeroValue157 w, rfl⟩⟩
instance : TyBA Tryd.prog 157 3 [Value.int Go.IntKind.i64 0, Value.int Go.IntKind.i64 0, Value.int Go.IntKind.i64 0, Value.int Go.IntKind.i64 0, Value.int Go.IntKind.i64 0, Value.int Go.IntKind.i64 0] := tyB_array (zv := Value.agg #[Value.int Go.IntKind.i64 0, Value.int Go.IntKind.i64 0, Value.int Go.IntKind.i64 0, Value.int Go.IntKind.i64 0, Value.int Go.IntKind.i64 0, Value.int Go.IntKind.i64 0]) (by kernel_rfl) rfl Tryd.underlying157 (by kernel_rfl)
instance : TyI Tryd.prog 158 (TypeDesc.slice 155) 1 false := ⟨Tryd.underlying158, Tryd.sizeOf158, Tryd.isAgg158⟩
instance : TyZ Tryd.prog 158 [Value.slice none 0 0] := ⟨fun w => ⟨_, Tryd.zeroValue158 w, rfl⟩⟩
instance : TyI Tryd.prog 161 (TypeDesc.map 155 4) 1 false := ⟨Tryd.underlying161, Tryd.sizeOf161, Tryd.isAgg161⟩
instance : TyZ Tryd.prog 161 [Value.map none] := ⟨fun w => ⟨_, Tryd.zeroValue161 w, rfl⟩⟩
instance : TyI Tryd.prog 162 (TypeDesc.func #[155] #[4] false) 1 false := ⟨Tryd.underlying162, Tryd.sizeOf162, Tryd.isAgg162⟩
instance : TyZ Tryd.prog 162 [Value.nilFunc] := ⟨fun w => ⟨_, Tryd.zeroValue162 w, rfl⟩⟩
instance : TyI Tryd.prog 164 (TypeDesc.int Go.IntKind.u32) 1 false := ⟨Tryd.underlying164, Tryd.sizeOf164, Tryd.isAgg164⟩
instance : TyI Tryd.prog 166 (TypeDesc.int Go.IntKind.u64) 1 false := ⟨Tryd.underlying166, Tryd.sizeOf166, Tryd.isAgg166⟩
instance : TyI Tryd.prog 170 (TypeDesc.slice 28) 1 false := ⟨Tryd.underlying170, Tryd.sizeOf170, Tryd.isAgg170⟩
instance : TyZ Tryd.prog 170 [Value.slice none 0 0] := ⟨fun w => ⟨_, Tryd.zeroValue170 w, rfl⟩⟩
instance : TyI Tryd.prog 174 (TypeDesc.func #[3, 28] #[4] false) 1 false := ⟨Tryd.underlying174, Tryd.sizeOf174, Tryd.isAgg174⟩
instance : TyI Tryd.prog 181 (TypeDesc.func #[134, 134] #[3] false) 1 false := ⟨Tryd.underlying181, Tryd.sizeOf181, Tryd.isAgg181⟩
instance : TyI Tryd.prog 186 (TypeDesc.struct #[{ name := "Track", type := 24, offset := 0, embedded := true, tag := "", pkgPath := "", byteOffset := 0 }]) 1 true := ⟨Tryd.underlying186, Tryd.sizeOf186, Tryd.isAgg186⟩
instance : TyZ Tryd.prog 186 [Value.slice none 0 0] := ⟨fun w => ⟨_, Tryd.zeroValue186 w, rfl⟩⟩
instance : TyB Tryd.prog 186 [(0, 1)] [Value.slice none 0 0] := tyB_struct (zv := Value.agg #[Value.slice none 0 0]) (by kernel_rfl) rfl Tryd.underlying186 (by kernel_rfl)
instance : TyI Tryd.prog 192 (TypeDesc.struct #[{ name := "so", type := 142, offset := 0, embedded := false, tag := "", pkgPath := "kreisel/ice", byteOffset := 0 }, { name := "asks", type := 68, offset := 1, embedded := false, tag := "", pkgPath := "kreisel/ice", byteOffset := 8 }]) 2 true := ⟨Tryd.underlying192, Tryd.sizeOf192, Tryd.isAgg192⟩
instance : TyZ Tryd.prog 192 [Value.nilFunc, Value.nilFunc] := ⟨fun w => ⟨_, Tryd.zeroValue192 w, rfl⟩⟩
instance : TyB Tryd.prog 192 [(0, 1), (1, 1)] [Value.nilFunc, Value.nilFunc] := tyB_struct (zv := Value.agg #[Value.nilFunc, Value.nilFunc]) (by kernel_rfl) rfl Tryd.underlying192 (by kernel_rfl)
instance : TyI Tryd.prog 193 (TypeDesc.array 2 192) 4 true := ⟨Tryd.underlying193, Tryd.sizeOf193, Tryd.isAgg193⟩
instance : TyZ Tryd.prog 193 [Value.nilFunc, Value.nilFunc, Value.nilFunc, Value.nilFunc] := ⟨fun w => ⟨_, Tryd.zeroValue193 w, rfl⟩⟩
instance : TyBA Tryd.prog 193 2 [Value.nilFunc, Value.nilFunc, Value.nilFunc, Value.nilFunc] := tyB_array (zv := Value.agg #[Value.nilFunc, Value.nilFunc, Value.nilFunc, Value.nilFunc]) (by kernel_rfl) rfl Tryd.underlying193 (by kernel_rfl)
instance : TyI Tryd.prog 204 (TypeDesc.int Go.IntKind.i64) 1 false := ⟨Tryd.underlying204, Tryd.sizeOf204, Tryd.isAgg204⟩
instance : TyI Tryd.prog 210 (TypeDesc.int Go.IntKind.u64) 1 false := ⟨Tryd.underlying210, Tryd.sizeOf210, Tryd.isAgg210⟩
instance : TyZ Tryd.prog 210 [Value.int Go.IntKind.u64 0] := ⟨fun w => ⟨_, Tryd.zeroValue210 w, rfl⟩⟩
instance : TyI Tryd.prog 214 (TypeDesc.pointer 3) 1 false := ⟨Tryd.underlying214, Tryd.sizeOf214, Tryd.isAgg214⟩
instance : FoI Tryd.prog 24 0 0 := foI (T := 24) (m := 0) inferInstance rfl (inferInstance : TyI Tryd.prog 22 _ _ _) rfl rfl
instance : FoI Tryd.prog 28 0 0 := foI (T := 28) (m := 0) inferInstance rfl (inferInstance : TyI Tryd.prog 3 _ _ _) rfl rfl
instance : FoI Tryd.prog 28 1 1 := foI (T := 28) (m := 1) inferInstance rfl (inferInstance : TyI Tryd.prog 3 _ _ _) rfl rfl
instance : FoI Tryd.prog 30 0 0 := foI (T := 30) (m := 0) inferInstance rfl (inferInstance : TyI Tryd.prog 24 _ _ _) rfl rfl
instance : FoI Tryd.prog 30 1 1 := foI (T := 30) (m := 1) inferInstance rfl (inferInstance : TyI Tryd.prog 25 _ _ _) rfl rfl
instance : FoI Tryd.prog 30 2 2 := foI (T := 30) (m := 2) inferInstance rfl (inferInstance : TyI Tryd.prog 26 _ _ _) rfl rfl
instance : FoI Tryd.prog 30 3 3 := foI (T := 30) (m := 3) inferInstance rfl (inferInstance : TyI Tryd.prog 28 _ _ _) rfl rfl
instance : FoI Tryd.prog 30 4 5 := foI (T := 30) (m := 4) inferInstance rfl (inferInstance : TyI Tryd.prog 28 _ _ _) rfl rfl
instance : FoI Tryd.prog 30 5 7 := foI (T := 30) (m := 5) inferInstance rfl (inferInstance : TyI Tryd.prog 3 _ _ _) rfl rfl
instance : FoI Tryd.prog 30 6 8 := foI (T := 30) (m := 6) inferInstance rfl (inferInstance : TyI Tryd.prog 3 _ _ _) rfl rfl
instance : FoI Tryd.prog 30 7 9 := foI (T := 30) (m := 7) inferInstance rfl (inferInstance : TyI Tryd.prog 3 _ _ _) rfl rfl
instance : FoI Tryd.prog 111 0 0 := foI (T := 111) (m := 0) inferInstance rfl (inferInstance : TyI Tryd.prog 30 _ _ _) rfl rfl
instance : FoI Tryd.prog 114 0 0 := foI (T := 114) (m := 0) inferInstance rfl (inferInstance : TyI Tryd.prog 3 _ _ _) rfl rfl
instance : FoI Tryd.prog 114 1 1 := foI (T := 114) (m := 1) inferInstance rfl (inferInstance : TyI Tryd.prog 28 _ _ _) rfl rfl
instance : FoI Tryd.prog 114 2 3 := foI (T := 114) (m := 2) inferInstance rfl (inferInstance : TyI Tryd.prog 28 _ _ _) rfl rfl
instance : FoI Tryd.prog 114 3 5 := foI (T := 114) (m := 3) inferInstance rfl (inferInstance : TyI Tryd.prog 28 _ _ _) rfl rfl
instance : FoI Tryd.prog 114 4 7 := foI (T := 114) (m := 4) inferInstance rfl (inferInstance : TyI Tryd.prog 5 _ _ _) rfl rfl
instance : FoI Tryd.prog 114 5 8 := foI (T := 114) (m := 5) inferInstance rfl (inferInstance : TyI Tryd.prog 3 _ _ _) rfl rfl
instance : FoI Tryd.prog 117 0 0 := foI (T := 117) (m := 0) inferInstance rfl (inferInstance : TyI Tryd.prog 28 _ _ _) rfl rfl
instance : FoI Tryd.prog 117 1 2 := foI (T := 117) (m := 1) inferInstance rfl (inferInstance : TyI Tryd.prog 3 _ _ _) rfl rfl
instance : FoI Tryd.prog 120 0 0 := foI (T := 120) (m := 0) inferInstance rfl (inferInstance : TyI Tryd.prog 28 _ _ _) rfl rfl
instance : FoI Tryd.prog 120 1 2 := foI (T := 120) (m := 1) inferInstance rfl (inferInstance : TyI Tryd.prog 3 _ _ _) rfl rfl
instance : FoI Tryd.prog 120 2 3 := foI (T := 120) (m := 2) inferInstance rfl (inferInstance : TyI Tryd.prog 3 _ _ _) rfl rfl
instance : FoI Tryd.prog 120 3 4 := foI (T := 120) (m := 3) inferInstance rfl (inferInstance : TyI Tryd.prog 4 _ _ _) rfl rfl
instance : FoI Tryd.prog 192 0 0 := foI (T := 192) (m := 0) inferInstance rfl (inferInstance : TyI Tryd.prog 142 _ _ _) rfl rfl
instance : FoI Tryd.prog 192 1 1 := foI (T := 192) (m := 1) inferInstance rfl (inferInstance : TyI Tryd.prog 68 _ _ _) rfl rfl
instance : FoI Tryd.prog 186 0 0 := foI (T := 186) (m := 0) inferInstance rfl (inferInstance : TyI Tryd.prog 24 _ _ _) rfl rfl
instance : CallI Tryd.prog 2 := ⟨Tryd.call2⟩
instance : CallI Tryd.prog 3 := ⟨Tryd.call3⟩
instance : CallI Tryd.prog 4 := ⟨Tryd.call4⟩
instance : CallI Tryd.prog 5 := ⟨Tryd.call5⟩
instance : CallI Tryd.prog 6 := ⟨Tryd.call6⟩
instance : CallI Tryd.prog 7 := ⟨Tryd.call7⟩
instance : CallI Tryd.prog 8 := ⟨Tryd.call8⟩
instance : CallI Tryd.prog 9 := ⟨Tryd.call9⟩
instance : CallI Tryd.prog 10 := ⟨Tryd.call10⟩
instance : CallI Tryd.prog 11 := ⟨Tryd.call11⟩
instance : CallI Tryd.prog 12 := ⟨Tryd.call12⟩
instance : CallI Tryd.prog 13 := ⟨Tryd.call13⟩
instance : CallI Tryd.prog 14 := ⟨Tryd.call14⟩
instance : CallI Tryd.prog 15 := ⟨Tryd.call15⟩
instance : CallI Tryd.prog 16 := ⟨Tryd.call16⟩
instance : CallI Tryd.prog 17 := ⟨Tryd.call17⟩
instance : CallI Tryd.prog 18 := ⟨Tryd.call18⟩
instance : CallI Tryd.prog 19 := ⟨Tryd.call19⟩
instance : CallI Tryd.prog 20 := ⟨Tryd.call20⟩
instance : CallI Tryd.prog 21 := ⟨Tryd.call21⟩
instance : CallI Tryd.prog 22 := ⟨Tryd.call22⟩
instance : CallI Tryd.prog 23 := ⟨Tryd.call23⟩
instance : CallI Tryd.prog 24 := ⟨Tryd.call24⟩
instance : CallI Tryd.prog 25 := ⟨Tryd.call25⟩
instance : CallI Tryd.prog 26 := ⟨Tryd.call26⟩
instance : CallI Tryd.prog 27 := ⟨Tryd.call27⟩
instance : CallI Tryd.prog 28 := ⟨Tryd.call28⟩
instance : CallI Tryd.prog 29 := ⟨Tryd.call29⟩
instance : CallI Tryd.prog 30 := ⟨Tryd.call30⟩
instance : CallI Tryd.prog 31 := ⟨Tryd.call31⟩
instance : CallI Tryd.prog 32 := ⟨Tryd.call32⟩
instance : CallI Tryd.prog 33 := ⟨Tryd.call33⟩
instance : CallI Tryd.prog 34 := ⟨Tryd.call34⟩
instance : CallI Tryd.prog 35 := ⟨Tryd.call35⟩
instance : CallI Tryd.prog 36 := ⟨Tryd.call36⟩
instance : CallI Tryd.prog 37 := ⟨Tryd.call37⟩
instance : CallI Tryd.prog 38 := ⟨Tryd.call38⟩
instance : CallI Tryd.prog 39 := ⟨Tryd.call39⟩
instance : CallI Tryd.prog 40 := ⟨Tryd.call40⟩
instance : CallI Tryd.prog 41 := ⟨Tryd.call41⟩
instance : CallI Tryd.prog 42 := ⟨Tryd.call42⟩
instance : CallI Tryd.prog 43 := ⟨Tryd.call43⟩
instance : CallI Tryd.prog 44 := ⟨Tryd.call44⟩
instance : CallI Tryd.prog 45 := ⟨Tryd.call45⟩
instance : CallI Tryd.prog 46 := ⟨Tryd.call46⟩
instance : CallI Tryd.prog 47 := ⟨Tryd.call47⟩
instance : CallI Tryd.prog 48 := ⟨Tryd.call48⟩
instance : CallI Tryd.prog 49 := ⟨Tryd.call49⟩
instance : CallI Tryd.prog 50 := ⟨Tryd.call50⟩
instance : CallI Tryd.prog 51 := ⟨Tryd.call51⟩
instance : CallI Tryd.prog 52 := ⟨Tryd.call52⟩
instance : CallI Tryd.prog 53 := ⟨Tryd.call53⟩
instance : CallI Tryd.prog 54 := ⟨Tryd.call54⟩
instance : CallI Tryd.prog 55 := ⟨Tryd.call55⟩
instance : CallI Tryd.prog 56 := ⟨Tryd.call56⟩
instance : CallI Tryd.prog 57 := ⟨Tryd.call57⟩
instance : CallI Tryd.prog 58 := ⟨Tryd.call58⟩
instance : CallI Tryd.prog 59 := ⟨Tryd.call59⟩
instance : CallI Tryd.prog 60 := ⟨Tryd.call60⟩
instance : CallI Tryd.prog 61 := ⟨Tryd.call61⟩
instance : CallI Tryd.prog 62 := ⟨Tryd.call62⟩
instance : CallI Tryd.prog 63 := ⟨Tryd.call63⟩
instance : CallI Tryd.prog 64 := ⟨Tryd.call64⟩
instance : CallI Tryd.prog 65 := ⟨Tryd.call65⟩
instance : CallI Tryd.prog 66 := ⟨Tryd.call66⟩
instance : CallI Tryd.prog 67 := ⟨Tryd.call67⟩
instance : CallI Tryd.prog 68 := ⟨Tryd.call68⟩
instance : CallI Tryd.prog 69 := ⟨Tryd.call69⟩
instance : CallI Tryd.prog 70 := ⟨Tryd.call70⟩
instance : CallI Tryd.prog 71 := ⟨Tryd.call71⟩
instance : CallI Tryd.prog 72 := ⟨Tryd.call72⟩
instance : CallI Tryd.prog 73 := ⟨Tryd.call73⟩
instance : CallI Tryd.prog 74 := ⟨Tryd.call74⟩
instance : CallI Tryd.prog 75 := ⟨Tryd.call75⟩
instance : CallI Tryd.prog 76 := ⟨Tryd.call76⟩
instance : CallI Tryd.prog 77 := ⟨Tryd.call77⟩
instance : CallI Tryd.prog 78 := ⟨Tryd.call78⟩
instance : CallI Tryd.prog 79 := ⟨Tryd.call79⟩
instance : CallI Tryd.prog 80 := ⟨Tryd.call80⟩
instance : CallI Tryd.prog 81 := ⟨Tryd.call81⟩
instance : CallI Tryd.prog 82 := ⟨Tryd.call82⟩
instance : CallI Tryd.prog 83 := ⟨Tryd.call83⟩
instance : CallI Tryd.prog 84 := ⟨Tryd.call84⟩
instance : CallI Tryd.prog 85 := ⟨Tryd.call85⟩
instance : CallI Tryd.prog 86 := ⟨Tryd.call86⟩
instance : CallI Tryd.prog 87 := ⟨Tryd.call87⟩
instance : CallI Tryd.prog 88 := ⟨Tryd.call88⟩
instance : CallI Tryd.prog 89 := ⟨Tryd.call89⟩
instance : CallI Tryd.prog 90 := ⟨Tryd.call90⟩
instance : CallI Tryd.prog 91 := ⟨Tryd.call91⟩
instance : CallI Tryd.prog 92 := ⟨Tryd.call92⟩
instance : CallI Tryd.prog 93 := ⟨Tryd.call93⟩
instance : CallI Tryd.prog 94 := ⟨Tryd.call94⟩
instance : CallI Tryd.prog 95 := ⟨Tryd.call95⟩
instance : CallI Tryd.prog 96 := ⟨Tryd.call96⟩
instance : CallI Tryd.prog 97 := ⟨Tryd.call97⟩
instance : CallI Tryd.prog 98 := ⟨Tryd.call98⟩
instance : CallI Tryd.prog 99 := ⟨Tryd.call99⟩
instance : CallI Tryd.prog 100 := ⟨Tryd.call100⟩
instance : CallI Tryd.prog 101 := ⟨Tryd.call101⟩
instance : CallI Tryd.prog 102 := ⟨Tryd.call102⟩
instance : CallI Tryd.prog 103 := ⟨Tryd.call103⟩
instance : CallI Tryd.prog 104 := ⟨Tryd.call104⟩
instance : CallI Tryd.prog 105 := ⟨Tryd.call105⟩
instance : CallI Tryd.prog 106 := ⟨Tryd.call106⟩
instance : CallI Tryd.prog 107 := ⟨Tryd.call107⟩
instance : CallI Tryd.prog 108 := ⟨Tryd.call108⟩
instance : CallI Tryd.prog 109 := ⟨Tryd.call109⟩
instance : CallI Tryd.prog 110 := ⟨Tryd.call110⟩
instance : CallI Tryd.prog 111 := ⟨Tryd.call111⟩
instance : CallI Tryd.prog 112 := ⟨Tryd.call112⟩
instance : CallI Tryd.prog 113 := ⟨Tryd.call113⟩
instance : CallI Tryd.prog 114 := ⟨Tryd.call114⟩
instance : CallI Tryd.prog 115 := ⟨Tryd.call115⟩
instance : CallI Tryd.prog 116 := ⟨Tryd.call116⟩
instance : CallI Tryd.prog 117 := ⟨Tryd.call117⟩
instance : CallI Tryd.prog 118 := ⟨Tryd.call118⟩
instance : CallI Tryd.prog 119 := ⟨Tryd.call119⟩
instance : CallI Tryd.prog 120 := ⟨Tryd.call120⟩
instance : CallI Tryd.prog 121 := ⟨Tryd.call121⟩
instance : CallI Tryd.prog 122 := ⟨Tryd.call122⟩
instance : CallI Tryd.prog 123 := ⟨Tryd.call123⟩
instance : CallI Tryd.prog 124 := ⟨Tryd.call124⟩
instance : CallI Tryd.prog 125 := ⟨Tryd.call125⟩
instance : CallI Tryd.prog 126 := ⟨Tryd.call126⟩
instance : CallI Tryd.prog 127 := ⟨Tryd.call127⟩
instance : CallI Tryd.prog 128 := ⟨Tryd.call128⟩
instance : CallI Tryd.prog 129 := ⟨Tryd.call129⟩
instance : CallI Tryd.prog 130 := ⟨Tryd.call130⟩
instance : CallI Tryd.prog 131 := ⟨Tryd.call131⟩
instance : CallI Tryd.prog 132 := ⟨Tryd.call132⟩
instance : CallI Tryd.prog 133 := ⟨Tryd.call133⟩
instance : CallI Tryd.prog 134 := ⟨Tryd.call134⟩
instance : CallI Tryd.prog 135 := ⟨Tryd.call135⟩
instance : CallI Tryd.prog 136 := ⟨Tryd.call136⟩
instance : CallI Tryd.prog 137 := ⟨Tryd.call137⟩
instance : CallI Tryd.prog 138 := ⟨Tryd.call138⟩
instance : CallI Tryd.prog 139 := ⟨Tryd.call139⟩
instance : CallI Tryd.prog 140 := ⟨Tryd.call140⟩
instance : CallI Tryd.prog 141 := ⟨Tryd.call141⟩
instance : CallI Tryd.prog 142 := ⟨Tryd.call142⟩
instance : CallI Tryd.prog 143 := ⟨Tryd.call143⟩
instance : CallI Tryd.prog 144 := ⟨Tryd.call144⟩
instance : CallI Tryd.prog 145 := ⟨Tryd.call145⟩
instance : CallI Tryd.prog 146 := ⟨Tryd.call146⟩
instance : CallI Tryd.prog 164 := ⟨Tryd.call164⟩
instance : CallI Tryd.prog 165 := ⟨Tryd.call165⟩
instance : CallI Tryd.prog 166 := ⟨Tryd.call166⟩
instance : CallI Tryd.prog 167 := ⟨Tryd.call167⟩
instance : CallI Tryd.prog 171 := ⟨Tryd.call171⟩
end Go.Proofs.YtdigopgncfhiaaaDoor
