/- Calls that write into one block they are handed; matrices in a block. -/
import Derived.Test.YtekjkaoibcfgfaaV3
import Derived.Test.YtekjkaoibcfgfaaFw
namespace Go.Proofs.Ytekjkaoibcfgfaa
open Go.RowKit
set_option linter.unusedSimpArgs false
set_option linter.unusedVariables false

/-- blocks that are as they were -/
def Ent.old (w : World) (lo hi : Nat) : Ent :=
  ⟨fun b => lo ≤ b ∧ b < hi, fun w' => ∀ b, lo ≤ b → b < hi → w'.heap[b]? = w.heap[b]?, fun _ _ h hp b h1 h2 => (h b ⟨h1, h2⟩).trans (hp b h1 h2)⟩
/-- What a call returns that writes into block g alone: V x for some x of which p; the block then holds C x. -/
def RetMQ {α : Type} (w : World) (g : Nat) (V : α → Value) (C : α → List Value) (p : α → Prop) (e : Ending) (w' : World) : Prop :=
  ∃ x, p x ∧ e = .returned (V x) ∧ (w'.os = w.os ∧ w'.tape = w.tape ∧ w'.output = w.output ∧ w.heap.size ≤ w'.heap.size) ∧ (∀ b, b < w.heap.size → b ≠ g → w'.heap[b]? = w.heap[b]?) ∧ Blk w' g (C x).toArray
def RetM (P : Program) (f : FuncId) (args : List Value) (w : World) (g : Nat) {α : Type} (V : α → Value) (C : α → List Value) (p : α → Prop) : Prop :=
  Calls P f args.toArray w (RetMQ w g V C p)
theorem RetM.calls {P : Program} {f : FuncId} {args : List Value} {w : World} {g : Nat} {α : Type} {V : α → Value} {C : α → List Value} {p : α → Prop} (h : RetM P f args w g V C p) : Calls P f args.toArray w (RetMQ w g V C p) := h
theorem RetM.of {P : Program} {f : FuncId} {args : List Value} {w : World} {g : Nat} {α : Type} {V : α → Value} {C : α → List Value} {p : α → Prop} (h : Calls P f args.toArray w (RetMQ w g V C p)) : RetM P f args w g V C p := h
attribute [irreducible] RetM
/-- the world as it was ahead of block g -/
def cutW (w : World) (g : Nat) : World := { w with heap := w.heap.extract 0 g }
theorem cutW_size {w : World} {g : Nat} (h : g < w.heap.size) : (cutW w g).heap.size = g := by simp [cutW]; omega
theorem cutW_below {w : World} {g : Nat} (h : g < w.heap.size) : Below (cutW w g).heap.size (cutW w g) w :=
  ⟨rfl, rfl, rfl, by rw [cutW_size h]; omega, fun k hk => by
    rw [cutW_size h] at hk
    simp only [cutW, Array.getElem?_extract]
    rw [if_pos (by omega)]; simp⟩

section
variable {P : Program} {w0 : World} {n : Nat} {d : List Deferred} {R : List (Nat × Value)} {H H' H1 : List Ent} {Q : Exit → Act → World → Prop} {ops : Array Oper} {rest : List Oper} {o : Oper} {t : Tmp} {x y : Operand} {v : Value}
theorem ret_enterM {α : Type} {f : FuncId} {fn : Func} {c : Code} {args : List Value} {w : World} {g : Nat} {cs : List Value} {V : α → Value} {C : α → List Value} {p : α → Prop} {n : Nat} (hB : Blk w g cs.toArray) (hf : P.funcs[f]? = some fn) (hb : fn.body = some c) (hnn : fn.ntmps = n) (hn : Nat.ble args.length n = true)
    (h : U (cutW w g) n [] (argsR 0 args) [.blk g cs, .old w (g + 1) w.heap.size] (c.wp P (bodyPost P fn (RetMQ w g V C p)))) : RetM P f args w g V C p :=
  RetM.of <| calls_of_wp hf hb (h _ _ ⟨by have := Nat.le_of_ble_eq_true hn; simp; omega, rfl, fun t v ht => by
    have := argsR_get args 0 t v ht
    obtain ⟨_, h2⟩ := this
    simp only [Nat.sub_zero] at h2
    have hlt : t < args.length := by
      rcases Nat.lt_or_ge t args.length with h | h
      · exact h
      · rw [List.getElem?_eq_none h] at h2; cases h2
    rw [Array.getD_eq_getD_getElem?, Array.getElem?_append_left (by simpa using hlt)]
    simp [h2], cutW_below hB.lt, by
    refine ⟨fun e he => ?_, fun e he b hb => ?_, ?_⟩
    · simp only [List.mem_cons, List.not_mem_nil, or_false] at he
      rcases he with rfl | rfl
      · exact hB
      · exact fun b _ _ => rfl
    · rw [cutW_size hB.lt]
      simp only [List.mem_cons, List.not_mem_nil, or_false] at he
      have := hB.lt
      rcases he with rfl | rfl
      · cases hb; omega
      · obtain ⟨h1, h2⟩ := hb; omega
    · simp only [List.pairwise_cons, List.mem_singleton, forall_eq, List.not_mem_nil, false_implies, implies_true, List.Pairwise.nil, and_true]
      rintro b hb ⟨h1, h2⟩
      cases hb; omega⟩)
theorem u_doneM {α : Type} {fn : Func} {V : α → Value} {C : α → List Value} {p : α → Prop} {vs : List Value} {w : World} {g : Nat} (hres : ResL P (cutW w g) R H fn.results.toList vs) (z : α) (hp : p z) (hV : V z = resV vs) (hg : g < w.heap.size) (ht : Take H (.blk g (C z)) H') (ho : Take H' (.old w (g + 1) w.heap.size) H1) : U (cutW w g) n [] R H (bodyPost P fn (RetMQ w g V C p) .ret) := fun a w' q => by
  have hH := q.own.take ht
  refine ⟨q.defers, resV vs, ?_, z, hp, by rw [hV], ⟨q.below.os, q.below.tape, q.below.output, ?_⟩, fun b hb hne => ?_, hH.here (.blk g (C z)) (by simp)⟩
  · have e : ∀ f : ResultVar → Sem Value, (∀ t, f (.tmp t) = pure (a.tmps.getD t undef)) → (∀ c t, f (.cell c t) = (do loadVar t (← asAddr (a.tmps.getD c undef)))) → (fn.results.mapM f).run P w' = .ok vs.toArray w' := fun f h1 h2 => by
      have := res_run q h1 h2 hres
      rw [Array.mapM_eq_mapM_toList, ← bind_pure_comp, Sem.run_bind, this]
      rfl
    unfold results
    simp only [Sem.run_bind]
    rw [e _ (fun _ => rfl) (fun _ _ => rfl)]
    simp only [Result.andThen_ok, Sem.run_pure]
    match vs with
    | [] => rfl
    | [v] => rfl
    | v :: v' :: r => rfl
  · have h1 := hH.foot (.blk g (C z)) (by simp) g rfl
    rcases Nat.lt_or_ge (g + 1) w.heap.size with h | h
    · have := (hH.foot _ (List.mem_cons_of_mem _ ho.mem) (w.heap.size - 1) ⟨by omega, by omega⟩).2
      omega
    · omega
  · rcases Nat.lt_or_ge b g with h | h
    · have := q.below.block b (by rw [cutW_size hg]; exact h)
      exact this.trans ((cutW_below hg).block b (by rw [cutW_size hg]; exact h)).symm
    · exact hH.here _ (List.mem_cons_of_mem _ ho.mem) b (by omega) hb
theorem u_endM {α : Type} {fn : Func} {V : α → Value} {C : α → List Value} {p : α → Prop} {w w0 : World} {g : Nat} (h : U w0 n d R H (bodyPost P fn (RetMQ w g V C p) .ret)) : U w0 n d R H (bodyPost P fn (RetMQ w g V C p) .normal) := h
theorem u_callM {f : FuncId} {fx : Operand} {xs : Array Operand} {ts : Array TypeId} {vs : List Value} {cap : Array Value} {α : Type} {V : α → Value} {C : α → List Value} {p : α → Prop} {g : Nat} {cs : List Value} (hop : o.op = .call ⟨.value fx, xs, ts⟩) (hw : want R ops o = some true) (hd : o.dst = some t) (ht : Nat.blt t n = true) (hf : evR R fx = some (.func (.func f) #[] cap)) (hx : evs R xs.toList = some vs) [ci : CallI P f] (htk : Take H (.blk g cs) H')
    (hc : ∀ w, Blk w g cs.toArray → RetM P f (vs ++ cap.toList) w g V C p) (h : ∀ x, p x → U w0 n d ((t, V x) :: R) (.blk g (C x) :: H') (wpList P ops Q rest)) : U w0 n d R H (wpList P ops Q (o :: rest)) :=
  u_op hw fun a w q K hK => by
    unfold Oper.wp execOp; rw [hop]
    have e1 : xs.map a.eval = vs.toArray := by apply Array.ext'; simpa using q.evs hx
    have e2 : vs.toArray ++ cap = (vs ++ cap.toList).toArray := by apply Array.ext'; simp
    simp only [resolve, q.ev hf, e1, Deferred.ofValue, Sem.run_bind, Sem.run_pure, Result.andThen_ok, invoke, Array.empty_append, e2, ci.ent, Oper.upon_enter, hd]
    have hH := q.own.take htk
    have hB : Blk w g cs.toArray := hH.here (.blk g cs) (by simp)
    have hfoot := hH.foot (.blk g cs) (by simp) g rfl
    refine Calls.mono (hc w hB).calls ?_
    rintro e w' ⟨z, hp, rfl, ⟨h1, h2, h3, h4⟩, h5, h6⟩
    refine hK _ _ (h z hp _ _ ((q.heap ?_ ?_).put ht))
    · exact q.below.trans ⟨h1, h2, h3, h4, fun b hb => h5 b (by have := q.base; omega) (by omega)⟩
    · refine hH.turn h4 (fun b hb hn => h5 b hb (fun e => hn e)) q.base h6 (fun b hb => ?_)
      cases hb
      exact ⟨.inl rfl, by omega⟩

/-! ### matrices -/
def cellsM (M : Mat) : List Value := (List.range 169).map fun j => .int .i64 (M (j / 13) (j % 13))
class MatI (I K : Nat) : Prop where lt : I < 13 ∧ K < 13
theorem cellsM_get {M : Mat} {I K : Nat} (h : I < 13 ∧ K < 13) : (cellsM M)[I * 13 + K]? = some (.int .i64 (M I K)) := by
  unfold cellsM
  rw [List.getElem?_map, List.getElem?_range (by omega)]
  simp only [Option.map_some]
  rw [show (I * 13 + K) / 13 = I by omega, show (I * 13 + K) % 13 = K by omega]
instance (priority := high) srcI_mat {g I K : Nat} {M : Mat} [i : TakeB H g (cellsM M) H'] [j : MatI I K] : SrcI w0 H g (0 + I * 13 + K * 1) [.int .i64 (M I K)] := ⟨fun w hb ho k v hv => by
  match k, hv with
  | 0, hv =>
    simp only [List.getElem?_cons_zero, Option.some.injEq] at hv
    subst hv
    have := (Src.blk i.tk : Src w0 H g 0 (cellsM M)) w hb ho (I * 13 + K) _ (cellsM_get j.lt)
    rwa [show 0 + (I * 13 + K) = 0 + I * 13 + K * 1 + 0 by omega] at this⟩
theorem cellsM_set {M : Mat} {I K : Nat} (h : I < 13 ∧ K < 13) (v : Int) : put1 (cellsM M) (0 + I * 13 + K * 1) [.int .i64 v] = cellsM (setM M I K v) := by
  show (cellsM M).set (0 + I * 13 + K * 1) (.int .i64 v) = _
  apply List.ext_getElem?
  intro j
  rw [List.getElem?_set]
  have hl : (cellsM M).length = 169 := by simp [cellsM]
  by_cases hj : j < 169
  · have e : ∀ N : Mat, (cellsM N)[j]? = some (.int .i64 (N (j / 13) (j % 13))) := fun N => by
      unfold cellsM; rw [List.getElem?_map, List.getElem?_range hj]; rfl
    rw [e, e, hl]
    by_cases hc : 0 + I * 13 + K * 1 = j
    · rw [if_pos hc, if_pos (by omega)]
      have h1 : j / 13 = I := by omega
      have h2 : j % 13 = K := by omega
      simp [setM, h1, h2]
    · rw [if_neg hc]
      have h1 : ¬ (j / 13 = I ∧ j % 13 = K) := by omega
      simp [setM, h1]
  · have hn : ∀ N : Mat, (cellsM N)[j]? = none := fun N => List.getElem?_eq_none (by simp [cellsM]; omega)
    rw [hn, hn, if_neg (by omega)]
theorem u_storeM {T1 : TypeId} {td : TypeDesc} {b I K : Nat} {g : Bool} {M : Mat} {i : Int} (hop : o.op = .store T1 x y) [i1 : TyI P T1 td 1 g] (hw : want R ops o = some true) (hd : o.dst = none) (hx : evR R x = some (.pointer (some ⟨b, 0 + I * 13 + K * 1, none⟩))) (hy : evR R y = some (.int .i64 i)) [i2 : TakeB H b (cellsM M) H'] [j : MatI I K]
    (h : U w0 n d R (.blk b (cellsM (setM M I K i)) :: H') (wpList P ops Q rest)) : U w0 n d R H (wpList P ops Q (o :: rest)) :=
  u_store hop hw hd hx hy i2.tk rfl rfl (Nat.ble_eq_true_of_le (by have := j.lt; simp [cellsM]; omega)) (cellsM_set j.lt i) h
end
end Go.Proofs.Ytekjkaoibcfgfaa
