/- Arrays of one's own that are written into. -/
import Derived.Test.YtekjkaoibcfgfaaX3
namespace Go.Proofs.Ytekjkaoibcfgfaa
open Go.RowKit
open Go.ChangeMaps (setBlock)
set_option maxRecDepth 20000
set_option linter.unusedSimpArgs false
set_option linter.unusedVariables false

theorem Pend.at_lt {j k : Nat} {e0 e1 : List Ent} (h : Nat.blt j k = true) : (Pend.mk j e0 e1).at k = e1 := by unfold Pend.at; rw [h]; rfl
theorem put1_left : ∀ (vs a b : List Value) (off : Nat), off + vs.length ≤ a.length → put1 (a ++ b) off vs = put1 a off vs ++ b
  | [], _, _, _, _ => rfl
  | v :: r, a, b, off, h => by
    simp only [List.length_cons] at h
    simp only [put1]
    rw [List.set_append_left _ _ (by omega), put1_left r _ b (off + 1) (by simp; omega)]
theorem put1_right : ∀ (vs a b : List Value) (off : Nat), put1 (a ++ b) (a.length + off) vs = a ++ put1 b off vs
  | [], _, _, _ => rfl
  | v :: r, a, b, off => by
    simp only [put1]
    rw [List.set_append_right _ _ (by omega), show a.length + off - a.length = off by omega, show a.length + off + 1 = a.length + (off + 1) by omega, put1_right r a _ (off + 1)]
theorem flat_put {α : Type} {enc : α → List Value} {k : Nat} (henc : ∀ x, (enc x).length = k) (vs tail : List Value) (j : Nat) (x' : α) : ∀ (xs : List α) (i : Nat) (x : α), xs[i]? = some x → put1 (enc x) j vs = enc x' → j + vs.length ≤ k → put1 (xs.flatMap enc ++ tail) (i * k + j) vs = (xs.set i x').flatMap enc ++ tail
  | [], i, x, h, _, _ => by simp at h
  | y :: r, 0, x, h, h1, h2 => by
    simp at h; subst h
    simp only [List.flatMap_cons, List.set_cons_zero, List.append_assoc, Nat.zero_mul, Nat.zero_add]
    rw [put1_left _ _ _ _ (by rw [henc]; exact h2), h1]
  | y :: r, i + 1, x, h, h1, h2 => by
    have ih := flat_put henc vs tail j x' r i x (by simpa using h) h1 h2
    simp only [List.flatMap_cons, List.set_cons_succ, List.append_assoc]
    rw [show (i + 1) * k + j = (enc y).length + (i * k + j) by rw [henc, Nat.succ_mul]; omega, put1_right, ih]

/-- an array of one's own, with room behind it perhaps -/
def Ent.arr {α : Type} (enc : α → List Value) (k : Nat) (g : Nat) (xs : List α) : Ent :=
  ⟨(· = g), fun w => ∃ tail : List Value, Blk w g (xs.flatMap enc ++ tail).toArray, fun _ _ h ⟨tl, hp⟩ => ⟨tl, hp.same (h g rfl)⟩⟩
class TakeA (H : List Ent) (g : Nat) {α : outParam Type} (enc : outParam (α → List Value)) (k : outParam Nat) (xs : outParam (List α)) (H' : outParam (List Ent)) : Prop where tk : Take H (.arr enc k g xs) H'
instance (priority := high) takeA_here {H : List Ent} {g : Nat} {α : Type} {enc : α → List Value} {k : Nat} {xs : List α} : TakeA (.arr enc k g xs :: H) g enc k xs H := ⟨Take.here _ _⟩
instance takeA_there {H H' : List Ent} {e : Ent} {g : Nat} {α : Type} {enc : α → List Value} {k : Nat} {xs : List α} [i : TakeA H g enc k xs H'] : TakeA (e :: H) g enc k xs (e :: H') := ⟨Take.there _ i.tk⟩
section
variable {P : Program} {w0 : World} {n : Nat} {d : List Deferred} {R : List (Nat × Value)} {H H' : List Ent} {Q : Exit → Act → World → Prop} {ops : Array Oper} {rest : List Oper} {o : Oper} {t : Tmp} {x y : Operand} {X : Act → World → Prop}
instance srcI_arr {g i k : Nat} {α : Type} {enc : α → List Value} {xs : List α} {z : α} [ei : EncI enc k] [i1 : TakeA H g enc k xs H'] [i2 : GetI xs i z] : SrcI w0 H g (0 + i * k) (enc z) := ⟨fun w hb ho j v hv => by
  obtain ⟨tl, hB⟩ := (ho.here _ i1.tk.mem : ∃ tail : List Value, Blk w g (xs.flatMap enc ++ tail).toArray)
  have h1 := flat_at ei.len xs i z i2.get j v hv
  rw [hB.cell]
  have hlt := (List.getElem?_eq_some_iff.1 h1).1
  rw [show 0 + i * k + j = i * k + j by omega]
  simp only [List.getElem?_toArray]
  rw [List.getElem?_append_left hlt]
  exact h1⟩
theorem u_storeA {α : Type} {enc : α → List Value} {k g i j s : Nat} {T1 : TypeId} {td : TypeDesc} {gg : Bool} {xs : List α} {z : α} {v : Value} (z' : α) (hop : o.op = .store T1 x y) [i1 : TyI P T1 td s gg] (hw : want R ops o = some true) (hd : o.dst = none) (hx : evR R x = some (.pointer (some ⟨g, 0 + i * k + j, none⟩))) (hy : evR R y = some v) [ei : EncI enc k] [i2 : TakeA H g enc k xs H'] [i3 : GetI xs i z]
    (hc : put1 (enc z) j v.cells.toList = enc z') (hv : Nat.beq v.cells.toList.length s = true) (h1 : v.cells.toList.all Value.oneCell' = true) (hj : j + s ≤ k)
    (h : U w0 n d R (.arr enc k g (xs.set i z') :: H') (wpList P ops Q rest)) : U w0 n d R H (wpList P ops Q (o :: rest)) := fun a w q => by
  have ho := q.own.take i2.tk
  obtain ⟨tl, hB⟩ := (ho.here (.arr enc k g xs) (by simp) : ∃ tail : List Value, Blk w g (xs.flatMap enc ++ tail).toArray)
  have hs : v.cells.toList.length = s := Nat.eq_of_beq_eq_true hv
  have q2 : Kn w0 n d R (.blk g (xs.flatMap enc ++ tl) :: H') a w := q.heap q.below (ho.recast (fun _ => hB) (fun b hb => hb))
  have hlen : i * k + k ≤ (xs.flatMap enc).length := by
    have : (xs.flatMap enc).length = xs.length * k := by simp [List.length_flatMap, ei.len, List.map_const', List.sum_replicate_nat]
    have hi := (List.getElem?_eq_some_iff.1 i3.get).1
    rw [this, ← Nat.succ_mul]
    exact Nat.mul_le_mul_right k hi
  refine u_store hop hw hd hx hy (Take.here _ _) hv h1 (Nat.ble_eq_true_of_le (by rw [List.length_append]; omega)) (cs' := (xs.set i z').flatMap enc ++ tl) (by
    rw [show 0 + i * k + j = i * k + j by omega]
    exact flat_put ei.len _ tl j z' xs i z i3.get hc (by rw [hs]; exact hj)) ?_ a w q2
  intro a' w' q'
  exact h a' w' (q'.heap q'.below (q'.own.recast (fun hp => ⟨tl, hp⟩) (fun b hb => hb)))
/-- a row that isn't empty, as an array -/
theorem u_row_arr {α : Type} {enc : α → List Value} {k e : Nat} {A : Option Addr} {m c : Nat} {xs : List α} (ht : Take H (.row enc k e (.slice A m c) xs) H') (h0 : 0 < xs.length) (h : ∀ g, A = some ⟨g, 0, none⟩ → U w0 n d R (.arr enc k g xs :: H') X) : U w0 n d R H X := fun a w q => by
  have ho := q.own.take ht
  obtain ⟨h1, h2⟩ := (ho.here (.row enc k e (.slice A m c) xs) (by simp) : Row enc k e 0 w (.slice A m c) xs)
  rcases h2 with ⟨_, h2⟩ | ⟨g, cap, cur, hv, _, hg, _, _, _, h8⟩
  · omega
  · cases hv
    have hB : Blk w g (xs.flatMap enc ++ cur.toList.drop (xs.length * k)).toArray := by
      unfold Blk
      refine ⟨e, ?_⟩
      rw [hg, ← h8, List.take_append_drop]
    exact h g rfl a w (q.heap q.below (ho.recast (fun _ => ⟨_, hB⟩) (fun b hb => by cases hb; rfl)))
theorem Own.arr_sl {α : Type} {enc : α → List Value} {k base g : Nat} [ei : EncI enc k] {w : World} {xs : List α} (ht : Take H (.arr enc k g xs) H') (h : Own base w H) : Own base w (.sl enc k (some ⟨g, 0, none⟩) xs :: H') := by
  refine (h.take ht).recast (fun hp => ?_) ?_
  · obtain ⟨tl, hB⟩ := hp
    intro i z hz
    refine ⟨g, 0, rfl, hB.lt, fun j v hv => ?_⟩
    have h1 := flat_at ei.len xs i z hz j v hv
    rw [hB.cell]
    have hlt := (List.getElem?_eq_some_iff.1 h1).1
    simp only [List.getElem?_toArray, Nat.zero_add]
    rw [List.getElem?_append_left hlt]
    exact h1
  · rintro b ⟨o, hA⟩
    cases hA
    rfl
end
theorem zeros_mat : Try.zeroCells156.toList = cellsM (fun _ _ => 0) := by kernel_rfl
open Go.RowKit
open Go.ChangeMaps (setBlock)
set_option linter.unusedSimpArgs false
set_option linter.unusedVariables false

/-- the blocks of some entries -/
def feet (H : List Ent) (b : Nat) : Prop := ∃ e ∈ H, e.S b
theorem feet_cons {e : Ent} {H : List Ent} {b : Nat} : feet (e :: H) b ↔ e.S b ∨ feet H b := by simp [feet]
theorem feet_nil {b : Nat} : ¬ feet [] b := by simp [feet]
/-- blocks that are as they were -/
def Ent.oldx (w : World) (lo : Nat) (S : Nat → Prop) : Ent :=
  ⟨fun b => (lo ≤ b ∧ b < w.heap.size) ∧ ¬ S b, fun w' => ∀ b, (lo ≤ b ∧ b < w.heap.size) ∧ ¬ S b → w'.heap[b]? = w.heap[b]?, fun _ _ h hp b hb => (h b hb).trans (hp b hb)⟩
/-- What a call returns that is handed the entries H: V x for some x of which p; memory then holds C x, of the same blocks and new ones. -/
def RetFQ {α : Type} (w : World) (H : List Ent) (V : α → Value) (C : α → List Ent) (p : α → Prop) (e : Ending) (w' : World) : Prop :=
  ∃ x, p x ∧ e = .returned (V x) ∧ (w'.os = w.os ∧ w'.tape = w.tape ∧ w'.output = w.output ∧ w.heap.size ≤ w'.heap.size) ∧ (∀ b, b < w.heap.size → ¬ feet H b → w'.heap[b]? = w.heap[b]?) ∧ Own 0 w' (C x) ∧ ∀ b, feet (C x) b → feet H b ∨ w.heap.size ≤ b
def RetF (P : Program) (f : FuncId) (args : List Value) (w : World) (H : List Ent) {α : Type} (V : α → Value) (C : α → List Ent) (p : α → Prop) : Prop :=
  Calls P f args.toArray w (RetFQ w H V C p)
theorem RetF.calls {P : Program} {f : FuncId} {args : List Value} {w : World} {H : List Ent} {α : Type} {V : α → Value} {C : α → List Ent} {p : α → Prop} (h : RetF P f args w H V C p) : Calls P f args.toArray w (RetFQ w H V C p) := h
theorem RetF.of {P : Program} {f : FuncId} {args : List Value} {w : World} {H : List Ent} {α : Type} {V : α → Value} {C : α → List Ent} {p : α → Prop} (h : Calls P f args.toArray w (RetFQ w H V C p)) : RetF P f args w H V C p := h
attribute [irreducible] RetF
theorem cutW_sizeL {w : World} {g : Nat} (h : g ≤ w.heap.size) : (cutW w g).heap.size = g := by simp [cutW]; omega
theorem cutW_belowL {w : World} {g : Nat} (h : g ≤ w.heap.size) : Below (cutW w g).heap.size (cutW w g) w :=
  ⟨rfl, rfl, rfl, by rw [cutW_sizeL h]; omega, fun k hk => by
    rw [cutW_sizeL h] at hk
    simp only [cutW, Array.getElem?_extract]
    rw [if_pos (by omega)]; simp⟩
theorem Own.base {base base' : Nat} {w : World} {H : List Ent} (h : Own base w H) (hb : ∀ b, feet H b → base' ≤ b) : Own base' w H :=
  ⟨h.here, fun e he b hS => ⟨hb b ⟨e, he, hS⟩, (h.foot e he b hS).2⟩, h.apart⟩

section
variable {P : Program} {w0 : World} {n : Nat} {d : List Deferred} {R : List (Nat × Value)} {H H' H1 H2 : List Ent} {Q : Exit → Act → World → Prop} {ops : Array Oper} {rest : List Oper} {o : Oper} {t : Tmp} {x y z : Operand} {v : Value}
theorem ret_enterF {α : Type} {f : FuncId} {fn : Func} {c : Code} {args : List Value} {w : World} {V : α → Value} {C : α → List Ent} {p : α → Prop} {n : Nat} (lo : Nat) (hlo : lo ≤ w.heap.size) (hO : Own lo w H) (hf : P.funcs[f]? = some fn) (hb : fn.body = some c) (hnn : fn.ntmps = n) (hn : Nat.ble args.length n = true)
    (h : U (cutW w lo) n [] (argsR 0 args) (H ++ [.oldx w lo (feet H)]) (c.wp P (bodyPost P fn (RetFQ w H V C p)))) : RetF P f args w H V C p :=
  RetF.of <| calls_of_wp hf hb (h _ _ ⟨by have := Nat.le_of_ble_eq_true hn; simp; omega, rfl, fun t v ht => by
    have := argsR_get args 0 t v ht
    obtain ⟨_, h2⟩ := this
    simp only [Nat.sub_zero] at h2
    have hlt : t < args.length := by
      rcases Nat.lt_or_ge t args.length with h | h
      · exact h
      · rw [List.getElem?_eq_none h] at h2; cases h2
    rw [Array.getD_eq_getD_getElem?, Array.getElem?_append_left (by simpa using hlt)]
    simp [h2], cutW_belowL hlo, by
    rw [cutW_sizeL hlo]
    refine Own.append.2 ⟨hO, ⟨fun e he => ?_, fun e he b hb => ?_, by simp⟩, fun e he f hf b hb hb' => ?_⟩
    · simp only [List.mem_singleton] at he; subst he; exact fun b _ => rfl
    · simp only [List.mem_singleton] at he; subst he; exact hb.1
    · simp only [List.mem_singleton] at hf; subst hf; exact hb'.2 ⟨e, he, hb⟩⟩)
theorem u_doneF {α : Type} {fn : Func} {V : α → Value} {C : α → List Ent} {p : α → Prop} {vs : List Value} {w : World} {lo : Nat} {H0 : List Ent} (hres : ResL P (cutW w lo) R H fn.results.toList vs) (z : α) (hp : p z) (hV : V z = resV vs) (hlo : lo ≤ w.heap.size)
    (ho : ∀ w', Own lo w' H → Own lo w' (C z ++ [.oldx w lo (feet H0)])) (hfe : ∀ b, feet H0 b → feet (C z) b) : U (cutW w lo) n [] R H (bodyPost P fn (RetFQ w H0 V C p) .ret) := fun a w' q => by
  have hq := q.own
  rw [cutW_sizeL hlo] at hq
  have hH := ho _ hq
  obtain ⟨hc, hol, hap⟩ := Own.append.1 hH
  have hsz : w.heap.size ≤ w'.heap.size := by
    rcases Nat.lt_or_ge lo w.heap.size with h | h
    · have h9 : w.heap.size - 1 < w'.heap.size := by
        by_cases hf : feet H0 (w.heap.size - 1)
        · obtain ⟨e, he, hS⟩ := hfe _ hf
          exact (hc.foot e he _ hS).2
        · exact (hol.foot (.oldx w lo (feet H0)) (by simp) (w.heap.size - 1) ⟨⟨by omega, by omega⟩, hf⟩).2
      omega
    · have := q.below.size
      rw [cutW_sizeL hlo] at this; omega
  refine ⟨q.defers, resV vs, ?_, z, hp, by rw [hV], ⟨q.below.os, q.below.tape, q.below.output, hsz⟩, fun b hb hne => ?_, ⟨hc.here, fun e he b hS => ⟨Nat.zero_le _, (hc.foot e he b hS).2⟩, hc.apart⟩, fun b hb => ?_⟩
  · have e : ∀ f : ResultVar → Sem Value, (∀ t, f (.tmp t) = pure (a.tmps.getD t undef)) → (∀ c t, f (.cell c t) = (do loadVar t (← asAddr (a.tmps.getD c undef)))) → (fn.results.mapM f).run P w' = .ok vs.toArray w' := fun f h1 h2 => by
      have := res_run q h1 h2 hres
      rw [Array.mapM_eq_mapM_toList, ← bind_pure_comp, Sem.run_bind, this]
      rfl
    unfold results
    simp only [Sem.run_bind]
    rw [e _ (fun _ => rfl) (fun _ _ => rfl)]
    simp only [Result.andThen_ok, Sem.run_pure]
    match vs with
    | [] => rfl
    | [v] => rfl
    | v :: v' :: r => rfl
  · rcases Nat.lt_or_ge b lo with h | h
    · have := q.below.block b (by rw [cutW_sizeL hlo]; exact h)
      exact this.trans ((cutW_belowL hlo).block b (by rw [cutW_sizeL hlo]; exact h)).symm
    · exact hol.here (.oldx w lo (feet H0)) (by simp) b ⟨⟨h, hb⟩, hne⟩
  · rcases Nat.lt_or_ge b w.heap.size with h | h
    · refine .inl (Classical.byContradiction fun hn => ?_)
      obtain ⟨e, he, hS⟩ := hb
      exact hap e he (.oldx w lo (feet H0)) (by simp) b hS ⟨⟨(hc.foot e he b hS).1, h⟩, hn⟩
    · exact .inr h
theorem u_endF {α : Type} {fn : Func} {V : α → Value} {C : α → List Ent} {p : α → Prop} {w w0 : World} {H0 : List Ent} (h : U w0 n d R H (bodyPost P fn (RetFQ w H0 V C p) .ret)) : U w0 n d R H (bodyPost P fn (RetFQ w H0 V C p) .normal) := h
theorem own_call {base : Nat} {w w' : World} {H2 H' E : List Ent} (hH : Own base w (H2 ++ H')) (hB : base ≤ w.heap.size) (h4 : w.heap.size ≤ w'.heap.size) (h5 : ∀ b, b < w.heap.size → ¬ feet H2 b → w'.heap[b]? = w.heap[b]?) (h6 : Own 0 w' E) (h7 : ∀ b, feet E b → feet H2 b ∨ w.heap.size ≤ b) : Own base w' (E ++ H') := by
  obtain ⟨a1, a2, a3⟩ := Own.append.1 hH
  refine Own.append.2 ⟨⟨h6.here, fun e he b hS => ⟨?_, (h6.foot e he b hS).2⟩, h6.apart⟩, a2.past h4 (fun e he b hS => h5 b (a2.foot e he b hS).2 ?_), fun e he f hf b hb hb' => ?_⟩
  · rcases h7 b ⟨e, he, hS⟩ with ⟨f, hf, hS'⟩ | h
    · exact (a1.foot f hf b hS').1
    · omega
  · rintro ⟨f, hf, hS'⟩
    exact a3 f hf e he b hS' hS
  · rcases h7 b ⟨e, he, hb⟩ with ⟨g, hg, hS'⟩ | h
    · exact a3 g hg f hf b hS' hb'
    · have := (a2.foot f hf b hb').2; omega
/-- a call that is handed the entries H2 -/
theorem u_callF {f : FuncId} {fx : Operand} {xs : Array Operand} {ts : Array TypeId} {vs : List Value} {cap : Array Value} {α : Type} {V : α → Value} {C : α → List Ent} {p : α → Prop} (H2 H' : List Ent) (hop : o.op = .call ⟨.value fx, xs, ts⟩) (hw : want R ops o = some true) (hd : o.dst = some t) (ht : Nat.blt t n = true) (hf : evR R fx = some (.func (.func f) #[] cap)) (hx : evs R xs.toList = some vs) [ci : CallI P f] (hs : Out H (H2 ++ H'))
    (hc : ∀ a w, Kn w0 n d R (H2 ++ H') a w → RetF P f (vs ++ cap.toList) w H2 V C p) (h : ∀ x, p x → U w0 n d ((t, V x) :: R) (C x ++ H') (wpList P ops Q rest)) : U w0 n d R H (wpList P ops Q (o :: rest)) :=
  u_op hw fun a w q K hK => by
    unfold Oper.wp execOp; rw [hop]
    have e1 : xs.map a.eval = vs.toArray := by apply Array.ext'; simpa using q.evs hx
    have e2 : vs.toArray ++ cap = (vs ++ cap.toList).toArray := by apply Array.ext'; simp
    simp only [resolve, q.ev hf, e1, Deferred.ofValue, Sem.run_bind, Sem.run_pure, Result.andThen_ok, invoke, Array.empty_append, e2, ci.ent, Oper.upon_enter, hd]
    have q2 := q.sub (fun _ _ h => h) hs
    refine Calls.mono (hc a w q2).calls ?_
    rintro e w' ⟨z, hp, rfl, ⟨h1, h2, h3, h4⟩, h5, h6, h7⟩
    refine hK _ _ (h z hp _ _ ((q.heap (q.below.trans ⟨h1, h2, h3, h4, fun b hb => h5 b (by have := q.base; omega) ?_⟩) (own_call q2.own q.base h4 h5 h6 h7)).put ht))
    rintro ⟨e, he, hS⟩
    have := (q2.own.foot e (List.mem_append_left _ he) b hS).1
    omega
theorem u_callF0 {f : FuncId} {fx : Operand} {xs : Array Operand} {ts : Array TypeId} {vs : List Value} {cap : Array Value} {α : Type} {V : α → Value} {C : α → List Ent} {p : α → Prop} (H2 H' : List Ent) (hop : o.op = .call ⟨.value fx, xs, ts⟩) (hw : want R ops o = some true) (hd : o.dst = none) (hf : evR R fx = some (.func (.func f) #[] cap)) (hx : evs R xs.toList = some vs) [ci : CallI P f] (hs : Out H (H2 ++ H'))
    (hc : ∀ a w, Kn w0 n d R (H2 ++ H') a w → RetF P f (vs ++ cap.toList) w H2 V C p) (h : ∀ x, p x → U w0 n d R (C x ++ H') (wpList P ops Q rest)) : U w0 n d R H (wpList P ops Q (o :: rest)) :=
  u_op hw fun a w q K hK => by
    unfold Oper.wp execOp; rw [hop]
    have e1 : xs.map a.eval = vs.toArray := by apply Array.ext'; simpa using q.evs hx
    have e2 : vs.toArray ++ cap = (vs ++ cap.toList).toArray := by apply Array.ext'; simp
    simp only [resolve, q.ev hf, e1, Deferred.ofValue, Sem.run_bind, Sem.run_pure, Result.andThen_ok, invoke, Array.empty_append, e2, ci.ent, Oper.upon_enter, hd]
    have q2 := q.sub (fun _ _ h => h) hs
    refine Calls.mono (hc a w q2).calls ?_
    rintro e w' ⟨z, hp, rfl, ⟨h1, h2, h3, h4⟩, h5, h6, h7⟩
    refine hK _ _ (h z hp _ _ (q.heap (q.below.trans ⟨h1, h2, h3, h4, fun b hb => h5 b (by have := q.base; omega) ?_⟩) (own_call q2.own q.base h4 h5 h6 h7)))
    rintro ⟨e, he, hS⟩
    have := (q2.own.foot e (List.mem_append_left _ he) b hS).1
    omega
end

/-! ### maps -/
def Ent.map (m : Nat) (es : Array MapEntry) (c : Nat) : Ent := ⟨(· = m), fun w => w.heap[m]? = some (.map es c), fun _ _ h hp => (h m rfl).trans hp⟩
theorem findNow_none {kd : IntKind} {i : Int} : ∀ (es : List MapEntry) (j : Nat), (∀ e ∈ es, ∃ l, e.key = .int kd l ∧ l ≠ i) → Instr.findNow (.int kd) (.int kd i) es j = some none
  | [], _, _ => rfl
  | e :: r, j, h => by
    obtain ⟨l, h1, h2⟩ := h e (by simp)
    have : (i == l) = false := by simpa using fun e => h2 e.symm
    simp only [Instr.findNow, h1, Instr.sameNow, if_true, this]
    exact findNow_none r (j + 1) (fun x hx => h x (List.mem_cons_of_mem _ hx))
theorem findNow_some {kd : IntKind} {i : Int} : ∀ (es : List MapEntry) (j k : Nat) (x : MapEntry), (∀ e ∈ es, ∃ l, e.key = .int kd l) → es[k]? = some x → x.key = .int kd i → (∀ k' y, k' < k → es[k']? = some y → y.key ≠ .int kd i) → Instr.findNow (.int kd) (.int kd i) es j = some (some (j + k, x.val))
  | [], _, _, _, _, h, _, _ => by simp at h
  | e :: r, j, 0, x, _, h1, h2, _ => by
    simp at h1; subst h1
    simp [Instr.findNow, h2, Instr.sameNow]
  | e :: r, j, k + 1, x, h, h1, h2, h3 => by
    obtain ⟨l, h4⟩ := h e (by simp)
    have h5 := h3 0 e (by omega) rfl
    rw [h4] at h5
    have : (i == l) = false := by
      cases hb : i == l with
      | false => rfl
      | true => exact absurd (by rw [eq_of_beq hb]) h5
    simp only [Instr.findNow, h4, Instr.sameNow, if_true, this]
    rw [findNow_some r (j + 1) k x (fun y hy => h y (List.mem_cons_of_mem _ hy)) (by simpa using h1) h2 (fun k' y hk hy => h3 (k' + 1) y (by omega) (by simpa using hy))]
    congr 3; omega
theorem run_checkKey_int {P : Program} {w : World} {e : Bool} {N : Nat} {kt : TypeId} {kd : IntKind} {i : Int} (hk : P.underlying kt = some (.int kd)) : (Instr.checkKey e (N + 1) kt (.int kd i)).run P w = .ok () w := by
  have e1 := run_underlying hk w
  simp [Instr.checkKey, e1, Sem.run_bind]
section
variable {P : Program} {w0 : World} {n : Nat} {d : List Deferred} {R : List (Nat × Value)} {H H' H1 H2 : List Ent} {Q : Exit → Act → World → Prop} {ops : Array Oper} {rest : List Oper} {o : Oper} {t : Tmp} {x y z : Operand} {v : Value}
theorem below_setBlk {w : World} {r : Nat} {ob : Obj} {B : Nat} (hr : B ≤ r) : Below B w (setBlock w r ob) :=
  ⟨rfl, rfl, rfl, by simp [setBlock], fun b hb => by
    simp only [setBlock]
    rw [Array.getElem?_setIfInBounds_ne (by omega)]⟩
theorem u_makeMap {T1 : TypeId} (hop : o.op = .makeMap T1 none) (hw : want R ops o = some true) (hd : o.dst = some t) (ht : Nat.blt t n = true) (h : ∀ m, U w0 n d ((t, .map (some m)) :: R) (.map m #[] 0 :: H) (wpList P ops Q rest)) : U w0 n d R H (wpList P ops Q (o :: rest)) :=
  u_op hw fun a w q K hK => by
    unfold Oper.wp execOp; rw [hop]
    have hrun : (Instr.makeMap T1 none).run P w = .ok (.map (some w.heap.size)) (w.alloc (.map #[] 0)) := rfl
    simp only [Option.map_none, Sem.run_bind, hrun, Result.andThen_ok, Sem.run_pure, Oper.upon_value, hd]
    exact hK _ _ (h w.heap.size _ _ ((q.call (E := [.map w.heap.size #[] 0]) (below_alloc w _) ⟨fun e he => by simp only [List.mem_singleton] at he; subst he; exact heap_alloc_new w _, fun e he b hb => by simp only [List.mem_singleton] at he; subst he; cases hb; simp, by simp⟩).put ht))
theorem own_setBlk {base : Nat} {w : World} {m c c' : Nat} {es es' : Array MapEntry} (h : Own base w (.map m es c :: H')) (hB : base ≤ w.heap.size) : Own base (setBlock w m (.map es' c')) (.map m es' c' :: H') := by
  have hf := h.foot (.map m es c) (by simp) m rfl
  refine h.turn (by simp [setBlock]) (fun b hb hn => ?_) hB ?_ (fun b hb => ?_)
  · have hne : m ≠ b := fun e => hn e.symm
    simp only [setBlock]; rw [Array.getElem?_setIfInBounds_ne hne]
  · simp [Ent.map, setBlock, hf.2]
  · cases hb; exact ⟨.inl rfl, by simp [setBlock, hf.2]⟩
/-- m[k] = v, k is new -/
theorem u_mapNew {T1 kt et : TypeId} {s m c : Nat} {g : Bool} {kd : IntKind} {es : Array MapEntry} {i : Int} (hop : o.op = .mapUpdate T1 x y z) [i1 : TyI P T1 (.map kt et) s g] (hkt : P.underlying kt = some (.int kd)) (hw : want R ops o = some true) (hd : o.dst = none) (hx : evR R x = some (.map (some m))) (hy : evR R y = some (.int kd i)) (hz : evR R z = some v) (ht : Take H (.map m es c) H')
    (hk : ∀ e ∈ es.toList, ∃ l, e.key = .int kd l ∧ l ≠ i) (h : U w0 n d R (.map m (es.push ⟨.int kd i, v, c⟩) (c + 1) :: H') (wpList P ops Q rest)) : U w0 n d R H (wpList P ops Q (o :: rest)) :=
  u_op hw fun a w q K hK => by
    have ho := q.own.take ht
    have hb : w.heap[m]? = some (.map es c) := ho.here (.map m es c) (by simp)
    have hf := ho.foot (.map m es c) (by simp) m rfl
    have e1 := run_underlying i1.und w
    have e2 := run_checkKey_int (P := P) (w := w) (e := false) (N := 9999) (i := i) hkt
    have e3 : (Instr.findKey kt (.int kd i) es.toList).run P w = .ok none w := by
      have := run_underlying hkt w
      simp [Instr.findKey, Sem.run_bind, this, findNow_none es.toList 0 hk]
    have hrun : (Instr.mapUpdate T1 (.map (some m)) (.int kd i) v).run P w = .ok () (setBlock w m (.map (es.push ⟨.int kd i, v, c⟩) (c + 1))) := by
      simp [Instr.mapUpdate, Sem.run_bind, e1, getObj, Sem.run, hb, e2, e3, setObj, setBlock]
    unfold Oper.wp execOp; rw [hop]
    simp only [Sem.run_bind, q.ev hx, q.ev hy, q.ev hz, hrun, Result.andThen_ok, Sem.run_pure, Oper.upon_skip, hd]
    exact hK _ _ (h _ _ (q.heap (q.below.trans (below_setBlk hf.1)) (own_setBlk ho q.base)))
end
end Go.Proofs.Ytekjkaoibcfgfaa
