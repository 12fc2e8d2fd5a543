/- Calls that write into one block they are handed; matrices in a block. -/
import Derived.Test.YtekjkaoibcfgfaaV1
import Derived.Test.YtekjkaoibcfgfaaFw
namespace Go.Proofs.Ytekjkaoibcfgfaa
open Go.RowKit
set_option linter.unusedSimpArgs false
set_option linter.unusedVariables false

/-- blocks that are as they were -/
def Ent.old (w : World) (lo hi : Nat) : Ent :=
  ⟨fun b => lo ≤ b ∧ b < hi, fun w' => ∀ b, lo ≤ b → b < hi → w'.heap[b]? = w.heap[b]?, fun _ _ h hp b h1 h2 => (h b ⟨h1, h2⟩).trans (hp b h1 h2)⟩
/-- What a call returns that writes into block g alone: V x for some x of which p; the block then holds C x. -/
def RetMQ {α : Type} (w : World) (g : Nat) (V : α → Value) (C : α → List Value) (p : α → Prop) (e : Ending) (w' : World) : Prop :=
  ∃ x, p x ∧ e = .returned (V x) ∧ (w'.os = w.os ∧ w'.tape = w.tape ∧ w'.output = w.output ∧ w.heap.size ≤ w'.heap.size) ∧ (∀ b, b < w.heap.size → b ≠ g → w'.heap[b]? = w.heap[b]?) ∧ Blk w' g (C x).toArray
def RetM (P : Program) (f : FuncId) (args : List Value) (w : World) (g : Nat) {α : Type} (V : α → Value) (C : α → List Value) (p : α → Prop) : Prop :=
  Calls P f args.toArray w (RetMQ w g V C p)
theorem RetM.calls {P : Program} {f : FuncId} {args : List Value} {w : World} {g : Nat} {α : Type} {V : α → Value} {C : α → List Value} {p : α → Prop} (h : RetM P f args w g V C p) : Calls P f args.toArray w (RetMQ w g V C p) := h
theorem RetM.of {P : Program} {f : FuncId} {args : List Value} {w : World} {g : Nat} {α : Type} {V : α → Value} {C : α → List Value} {p : α → Prop} (h : Calls P f args.toArray w (RetMQ w g V C p)) : RetM P f args w g V C p := h
attribute [irreducible] RetM
/-- the world as it was ahead of block g -/
def cutW (w : World) (g : Nat) : World := { w with heap := w.heap.extract 0 g }
theorem cutW_size {w : World} {g : Nat} (h : g < w.heap.size) : (cutW w g).heap.size = g := by simp [cutW]; omega
theorem cutW_below {w : World} {g : Nat} (h : g < w.heap.size) : Below (cutW w g).heap.size (cutW w g) w :=
  ⟨rfl, rfl, rfl, by rw [cutW_size h]; omega, fun k hk => by
    rw [cutW_size h] at hk
    simp only [cutW, Array.getElem?_extract]
    rw [if_pos (by omega)]; simp⟩

section
variable {P : Program} {w0 : World} {n : Nat} {d : List Deferred} {R : List (Nat × Value)} {H H' H1 : List Ent} {Q : Exit → Act → World → Prop} {ops : Array Oper} {rest : List Oper} {o : Oper} {t : Tmp} {x y : Operand} {v : Value}
theorem ret_enterM {α : Type} {f : FuncId} {fn : Func} {c : Code} {args : List Value} {w : World} {g : Nat} {cs : List Value} {V : α → Value} {C : α → List Value} {p : α → Prop} {n : Nat} (hB : Blk w g cs.toArray) (hf : P.funcs[f]? = some fn) (hb : fn.body = some c) (hnn : fn.ntmps = n) (hn : Nat.ble args.length n = true)
    (h : U (cutW w g) n [] (argsR 0 args) [.blk g cs, .old w (g + 1) w.heap.size] (c.wp P (bodyPost P fn (RetMQ w g V C p)))) : RetM P f args w g V C p :=
  RetM.of <| calls_of_wp hf hb (h _ _ ⟨by have := Nat.le_of_ble_eq_true hn; simp; omega, rfl, fun t v ht => by
    have := argsR_get args 0 t v ht
    obtain ⟨_, h2⟩ := this
    simp only [Nat.sub_zero] at h2
    have hlt : t < args.length := by
      rcases Nat.lt_or_ge t args.length with h | h
      · exact h
      · rw [List.getElem?_eq_none h] at h2; cases h2
    rw [Array.getD_eq_getD_getElem?, Array.getElem?_append_left (by simpa using hlt)]
    simp [h2], cutW_below hB.lt, by
    refine ⟨fun e he => ?_, fun e he b hb => ?_, ?_⟩
    · simp only [List.mem_cons, List.not_mem_nil, or_false] at he
      rcases he with rfl | rfl
      · exact hB
      · exact fun b _ _ => rfl
    · rw [cutW_size hB.lt]
      simp only [List.mem_cons, List.not_mem_nil, or_false] at he
      have := hB.lt
      rcases he with rfl | rfl
      · cases hb; omega
      · obtain ⟨h1, h2⟩ := hb; omega
    · simp only [List.pairwise_cons, List.mem_singleton, forall_eq, List.not_mem_nil, false_implies, implies_true, List.Pairwise.nil, and_true]
      rintro b hb ⟨h1, h2⟩
      cases hb; omega⟩)
theorem u_doneM {α : Type} {fn : Func} {V : α → Value} {C : α → List Value} {p : α → Prop} {vs : List Value} {w : World} {g : Nat} (hres : ResL P (cutW w g) R H fn.results.toList vs) (z : α) (hp : p z) (hV : V z = resV vs) (hg : g < w.heap.size) (ht : Take H (.blk g (C z)) H') (ho : Take H' (.old w (g + 1) w.heap.size) H1) : U (cutW w g) n [] R H (bodyPost P fn (RetMQ w g V C p) .ret) := fun a w' q => by
  have hH := q.own.take ht
  refine ⟨q.defers, resV vs, ?_, z, hp, by rw [hV], ⟨q.below.os, q.below.tape, q.below.output, ?_⟩, fun b hb hne => ?_, hH.here (.blk g (C z)) (by simp)⟩
  · have e : ∀ f : ResultVar → Sem Value, (∀ t, f (.tmp t) = pure (a.tmps.getD t undef)) → (∀ c t, f (.cell c t) = (do loadVar t (← asAddr (a.tmps.getD c undef)))) → (fn.results.mapM f).run P w' = .ok vs.toArray w' := fun f h1 h2 => by
      have := res_run q h1 h2 hres
      rw [Array.mapM_eq_mapM_toList, ← bind_pure_comp, Sem.run_bind, this]
      rfl
    unfold results
    simp only [Sem.run_bind]
    rw [e _ (fun _ => rfl) (fun _ _ => rfl)]
    simp only [Result.andThen_ok, Sem.run_pure]
    match vs with
    | [] => rfl
    | [v] => rfl
    | v :: v' :: r => rfl
  · have h1 := hH.foot (.blk g (C z)) (by simp) g rfl
    rcases Nat.lt_or_ge (g + 1) w.heap.size with h | h
    · have := (hH.foot _ (List.mem_cons_of_mem _ ho.mem) (w.heap.size - 1) ⟨by omega, by omega⟩).2
      omega
    · omega
  · rcases Nat.lt_or_ge b g with h | h
    · have := q.below.block b (by rw [cutW_size hg]; exact h)
      exact this.trans ((cutW_below hg).block b (by rw [cutW_size hg]; exact h)).symm
    · exact hH.here _ (List.mem_cons_of_mem _ ho.mem) b (by omega) hb
theorem u_endM {α : Type} {fn : Func} {V : α → Value} {C : α → List Value} {p : α → Prop} {w w0 : World} {g : Nat} (h : U w0 n d R H (bodyPost P fn (RetMQ w g V C p) .ret)) : U w0 n d R H (bodyPost P fn (RetMQ w g V C p) .normal) := h
theorem u_callM {f : FuncId} {fx : Operand} {xs : Array Operand} {ts : Array TypeId} {vs : List Value} {cap : Array Value} {α : Type} {V : α → Value} {C : α → List Value} {p : α → Prop} {g : Nat} {cs : List Value} (hop : o.op = .call ⟨.value fx, xs, ts⟩) (hw : want R ops o = some true) (hd : o.dst = some t) (ht : Nat.blt t n = true) (hf : evR R fx = some (.func (.func f) #[] cap)) (hx : evs R xs.toList = some vs) [ci : CallI P f] (htk : Take H (.blk g cs) H')
    (hc : ∀ w, Blk w g cs.toArray → RetM P f (vs ++ cap.toList) w g V C p) (h : ∀ x, p x → U w0 n d ((t, V x) :: R) (.blk g (C x) :: H') (wpList P ops Q rest)) : U w0 n d R H (wpList P ops Q (o :: rest)) :=
  u_op hw fun a w q K hK => by
    unfold Oper.wp execOp; rw [hop]
    have e1 : xs.map a.eval = vs.toArray := by apply Array.ext'; simpa using q.evs hx
    have e2 : vs.toArray ++ cap = (vs ++ cap.toList).toArray := by apply Array.ext'; simp
    simp only [resolve, q.ev hf, e1, Deferred.ofValue, Sem.run_bind, Sem.run_pure, Result.andThen_ok, invoke, Array.empty_append, e2, ci.ent, Oper.upon_enter, hd]
    have hH := q.own.take htk
    have hB : Blk w g cs.toArray := hH.here (.blk g cs) (by simp)
    have hfoot := hH.foot (.blk g cs) (by simp) g rfl
    refine Calls.mono (hc w hB).calls ?_
    rintro e w' ⟨z, hp, rfl, ⟨h1, h2, h3, h4⟩, h5, h6⟩
    refine hK _ _ (h z hp _ _ ((q.heap ?_ ?_).put ht))
    · exact q.below.trans ⟨h1, h2, h3, h4, fun b hb => h5 b (by have := q.base; omega) (by omega)⟩
    · refine hH.turn h4 (fun b hb hn => h5 b hb (fun e => hn e)) q.base h6 (fun b hb => ?_)
      cases hb
      exact ⟨.inl rfl, by omega⟩

/-! ### matrices -/
def cellsM (M : Mat) : List Value := (List.range 169).map fun j => .int .i64 (M (j / 13) (j % 13))
class MatI (I K : Nat) : Prop where lt : I < 13 ∧ K < 13
theorem cellsM_get {M : Mat} {I K : Nat} (h : I < 13 ∧ K < 13) : (cellsM M)[I * 13 + K]? = some (.int .i64 (M I K)) := by
  unfold cellsM
  rw [List.getElem?_map, List.getElem?_range (by omega)]
  simp only [Option.map_some]
  rw [show (I * 13 + K) / 13 = I by omega, show (I * 13 + K) % 13 = K by omega]
instance (priority := high) srcI_mat {g I K : Nat} {M : Mat} [i : TakeB H g (cellsM M) H'] [j : MatI I K] : SrcI w0 H g (0 + I * 13 + K * 1) [.int .i64 (M I K)] := ⟨fun w hb ho k v hv => by
  match k, hv with
  | 0, hv =>
    simp only [List.getElem?_cons_zero, Option.some.injEq] at hv
    subst hv
    have := (Src.blk i.tk : Src w0 H g 0 (cellsM M)) w hb ho (I * 13 + K) _ (cellsM_get j.lt)
    rwa [show 0 + (I * 13 + K) = 0 + I * 13 + K * 1 + 0 by omega] at this⟩
theorem cellsM_set {M : Mat} {I K : Nat} (h : I < 13 ∧ K < 13) (v : Int) : put1 (cellsM M) (0 + I * 13 + K * 1) [.int .i64 v] = cellsM (setM M I K v) := by
  show (cellsM M).set (0 + I * 13 + K * 1) (.int .i64 v) = _
  apply List.ext_getElem?
  intro j
  rw [List.getElem?_set]
  have hl : (cellsM M).length = 169 := by simp [cellsM]
  by_cases hj : j < 169
  · have e : ∀ N : Mat, (cellsM N)[j]? = some (.int .i64 (N (j / 13) (j % 13))) := fun N => by
      unfold cellsM; rw [List.getElem?_map, List.getElem?_range hj]; rfl
    rw [e, e, hl]
    by_cases hc : 0 + I * 13 + K * 1 = j
    · rw [if_pos hc, if_pos (by omega)]
      have h1 : j / 13 = I := by omega
      have h2 : j % 13 = K := by omega
      simp [setM, h1, h2]
    · rw [if_neg hc]
      have h1 : ¬ (j / 13 = I ∧ j % 13 = K) := by omega
      simp [setM, h1]
  · have hn : ∀ N : Mat, (cellsM N)[j]? = none := fun N => List.getElem?_eq_none (by simp [cellsM]; omega)
    rw [hn, hn, if_neg (by omega)]
theorem u_storeM {T1 : TypeId} {td : TypeDesc} {b I K : Nat} {g : Bool} {M : Mat} {i : Int} (hop : o.op = .store T1 x y) [i1 : TyI P T1 td 1 g] (hw : want R ops o = some true) (hd : o.dst = none) (hx : evR R x = some (.pointer (some ⟨b, 0 + I * 13 + K * 1, none⟩))) (hy : evR R y = some (.int .i64 i)) [i2 : TakeB H b (cellsM M) H'] [j : MatI I K]
    (h : U w0 n d R (.blk b (cellsM (setM M I K i)) :: H') (wpList P ops Q rest)) : U w0 n d R H (wpList P ops Q (o :: rest)) :=
  u_store hop hw hd hx hy i2.tk rfl rfl (Nat.ble_eq_true_of_le (by have := j.lt; simp [cellsM]; omega)) (cellsM_set j.lt i) h
end
end Go.Proofs.Ytekjkaoibcfgfaa
/- settle: pivots in place. -/
namespace Go.Proofs.Ytekjkaoibcfgfaa
open Go.RowKit
set_option maxRecDepth 20000
set_option linter.unusedSimpArgs false
set_option linter.unusedVariables false

def AgrM (n : Nat) (M F : Mat) : Prop := ∀ a b, a < n → b < n → M a b = F a b
/-- a pivot that is done up to i, k -/
def Mid (n : Nat) (F F1 : Mat) (i k : Nat) (M : Mat) : Prop := ∀ a b, a < n → b < n → M a b = if a < i ∨ (a = i ∧ b < k) then F1 a b else F a b
def MidD (n : Nat) (F1 : Mat) (i k : Nat) : Prop := ∀ a, a < n → (a < i ∨ (a = i ∧ a < k)) → 0 ≤ F1 a a
section
variable {n x i k : Nat} {M0 M : Mat}
theorem mid_start (h : AgrM n M (fwTo M0 x)) : Mid n (fwTo M0 x) (fwTo M0 (x + 1)) 0 0 M := fun a b ha hb => by
  rw [if_neg (by omega)]; exact h a b ha hb
theorem mid_row (h : Mid n (fwTo M0 x) (fwTo M0 (x + 1)) i n M) : Mid n (fwTo M0 x) (fwTo M0 (x + 1)) (i + 1) 0 M := fun a b ha hb => by
  rw [h a b ha hb]
  by_cases h1 : a < i ∨ (a = i ∧ b < n)
  · rw [if_pos h1, if_pos (by omega)]
  · rw [if_neg h1, if_neg (by omega)]
theorem mid_end (h : Mid n (fwTo M0 x) (fwTo M0 (x + 1)) n 0 M) : AgrM n M (fwTo M0 (x + 1)) := fun a b ha hb => by
  rw [h a b ha hb, if_pos (by omega)]
theorem midD_row (h : MidD n (fwTo M0 (x + 1)) i n) : MidD n (fwTo M0 (x + 1)) (i + 1) 0 := fun a ha h1 => h a ha (by omega)
theorem fine_succ (hf : fine n M0 x) (h : MidD n (fwTo M0 (x + 1)) n 0) : fine n M0 (x + 1) := fun y hy a ha => by
  rcases Nat.lt_or_ge x y with h1 | h1
  · obtain rfl : y = x + 1 := by omega
    exact h a ha (by omega)
  · exact hf y h1 a ha
theorem mid_facts (h0 : Diag n M0) (hf : fine n M0 x) (hx : x < n) (hi : i < n) (hk : k < n) (h : Mid n (fwTo M0 x) (fwTo M0 (x + 1)) i k M) :
    M i x = fwTo M0 x i x ∧ M x k = fwTo M0 x x k ∧ M i k = fwTo M0 x i k ∧ fwTo M0 (x + 1) i k = min (fwTo M0 x i k) (fwTo M0 x i x + fwTo M0 x x k) := by
  have hd := fwTo_diag h0 hf x hx
  have e1 : fwTo M0 (x + 1) i x = fwTo M0 x i x := by simp only [fwTo, stepM]; omega
  have e2 : fwTo M0 (x + 1) x k = fwTo M0 x x k := by simp only [fwTo, stepM]; omega
  refine ⟨?_, ?_, ?_, rfl⟩
  · rw [h i x hi hx]; split
    · exact e1
    · rfl
  · rw [h x k hx hk]; split
    · exact e2
    · rfl
  · rw [h i k hi hk, if_neg (by omega)]
theorem mid_set (h : Mid n (fwTo M0 x) (fwTo M0 (x + 1)) i k M) {v : Int} (hv : v = fwTo M0 (x + 1) i k) : Mid n (fwTo M0 x) (fwTo M0 (x + 1)) i (k + 1) (setM M i k v) := fun a b ha hb => by
  unfold setM
  by_cases h1 : a = i ∧ b = k
  · obtain ⟨rfl, rfl⟩ := h1
    rw [if_pos ⟨rfl, rfl⟩, if_pos (by omega)]; exact hv
  · rw [if_neg h1, h a b ha hb]
    by_cases h2 : a < i ∨ (a = i ∧ b < k)
    · rw [if_pos h2, if_pos (by omega)]
    · rw [if_neg h2, if_neg (by omega)]
theorem mid_keep (h : Mid n (fwTo M0 x) (fwTo M0 (x + 1)) i k M) (hi : i < n) (hk : k < n) (hv : fwTo M0 x i k = fwTo M0 (x + 1) i k) : Mid n (fwTo M0 x) (fwTo M0 (x + 1)) i (k + 1) M := fun a b ha hb => by
  rw [h a b ha hb]
  by_cases h2 : a < i ∨ (a = i ∧ b < k)
  · rw [if_pos h2, if_pos (by omega)]
  · rw [if_neg h2]
    by_cases h1 : a = i ∧ b = k
    · obtain ⟨rfl, rfl⟩ := h1
      rw [if_pos (by omega)]; exact hv
    · rw [if_neg (by omega)]
theorem midD_succ (h : MidD n (fwTo M0 (x + 1)) i k) (hv : i = k → 0 ≤ fwTo M0 (x + 1) i k) : MidD n (fwTo M0 (x + 1)) i (k + 1) := fun a ha h1 => by
  by_cases h2 : a < i ∨ (a = i ∧ a < k)
  · exact h a ha h2
  · obtain ⟨rfl, rfl⟩ : a = i ∧ a = k := by omega
    exact hv rfl
theorem fw_bd13 (hb : ∀ i k, i < n → k < n → -1073741824 ≤ M0 i k ∧ M0 i k ≤ 1073741824) (hn : n ≤ 13) (hx : x ≤ n) (hi : i < n) (hk : k < n) : -8796093022208 ≤ fwTo M0 x i k ∧ fwTo M0 x i k ≤ 8796093022208 := by
  have h := fw_bd hb (by omega) x hx i k hi hk
  have hp : (2 : Int) ^ x ≤ 2 ^ 13 := by
    have := Nat.pow_le_pow_right (n := 2) (by omega) (by omega : x ≤ 13)
    exact_mod_cast this
  have h2 : (2 : Int) ^ x * 1073741824 ≤ 2 ^ 13 * 1073741824 := Int.mul_le_mul_of_nonneg_right hp (by omega)
  have h3 : (2 : Int) ^ 13 * 1073741824 = 8796093022208 := by decide
  omega
end

set_option maxHeartbeats 2000000 in
theorem settle_any (n : Nat) (M0 : Mat) (g : Nat) (w : World) (hB : Blk w g (cellsM M0).toArray) (hn : n ≤ 13) (h0 : Diag n M0) (hb : ∀ i k, i < n → k < n → -1073741824 ≤ M0 i k ∧ M0 i k ≤ 1073741824) :
    RetM Try.prog 96 [.pointer (some ⟨g, 0, none⟩), .int .i64 (n : Int)] w g (fun z : Bool × Mat => .bool z.1) (fun z => cellsM z.2) (fun z => (z.1 = true → fine n M0 n ∧ AgrM n z.2 (fwTo M0 n)) ∧ (z.1 = false → ¬ fine n M0 n)) := by
  have hg := hB.lt
  have f0 : fine n M0 0 := fun y hy a ha => by
    obtain rfl : y = 0 := by omega
    have := h0 a ha
    simp only [fwTo]; omega
  refine ret_enterM (n := 58) hB Try.func96 rfl rfl rfl ?_
  (repeat' (first | ((with_reducible refine isOps ?_); first | refine u_move rfl rfl rfl rfl rfl ?_ | refine u_assign rfl rfl rfl rfl rfl ?_) | (with_reducible first | refine u_seq ?_ | refine u_region ?_ | refine u_nil ?_ | refine u_then_n ?_ | refine u_block ?_)))
  refine u_loop (ι := Nat × Mat) (fun j => j.1 ≤ n ∧ fine n M0 j.1 ∧ AgrM n j.2 (fwTo M0 j.1)) (fun j => [(0, .pointer (some ⟨g, 0, none⟩)), (1, .int .i64 (n : Int)), (9, .int .i64 (n : Int)), (10, .int .i64 (j.1 : Int))]) (fun j => [.blk g (cellsM j.2), .old w (g + 1) w.heap.size]) (fun j => n - j.1) (0, M0) ⟨Nat.zero_le _, f0, fun _ _ _ _ => rfl⟩ (by (first | exact fun _ _ h => lk_nil h | (repeat (first | exact (fun _ _ h => lk_nil h) | (refine lk_sub rfl ?_))))) (by (repeat (first | exact Out.nil _ | (refine Out.cons (by (repeat (first | exact Take.here _ _ | apply Take.there))) ?_)))) ?_
  rintro ⟨x, M⟩ ⟨hx, hf, hA⟩
  simp only at hx hf hA ⊢
  by_cases hlt : x < n
  · (repeat' (first | ((with_reducible refine isOps ?_); first | refine u_move rfl rfl rfl rfl rfl ?_ | refine u_assign rfl rfl rfl rfl rfl ?_ | (refine u_cmp rfl rfl rfl rfl rfl rfl rfl (fun h => ?_) (fun h => ?_) <;> (dsimp only [cmpP] at h; (try (exfalso; omega))))) | (with_reducible first | refine u_seq ?_ | refine u_region ?_ | refine u_nil ?_ | refine u_then_n ?_ | refine u_skip ?_ | refine u_block ?_) | ((with_reducible refine u_cond_t ?_ ?_); (· exact rfl))))
    refine u_loop (ι := Nat × Mat) (fun j => j.1 ≤ n ∧ Mid n (fwTo M0 x) (fwTo M0 (x + 1)) j.1 0 j.2 ∧ MidD n (fwTo M0 (x + 1)) j.1 0) (fun j => [(0, .pointer (some ⟨g, 0, none⟩)), (1, .int .i64 (n : Int)), (9, .int .i64 (n : Int)), (10, .int .i64 (x : Int)), (5, .int .i64 (x : Int)), (13, .int .i64 (n : Int)), (14, .int .i64 (j.1 : Int))]) (fun j => [.blk g (cellsM j.2), .old w (g + 1) w.heap.size]) (fun j => n - j.1) (0, M) ⟨Nat.zero_le _, mid_start hA, fun a ha h => by omega⟩ (by (first | exact fun _ _ h => lk_nil h | (repeat (first | exact (fun _ _ h => lk_nil h) | (refine lk_sub rfl ?_))))) (by (repeat (first | exact Out.nil _ | (refine Out.cons (by (repeat (first | exact Take.here _ _ | apply Take.there))) ?_)))) ?_
    clear hA M
    rintro ⟨i, M⟩ ⟨hi, hM, hD⟩
    simp only at hi hM hD ⊢
    by_cases hli : i < n
    · (repeat' (first | ((with_reducible refine isOps ?_); first | refine u_move rfl rfl rfl rfl rfl ?_ | refine u_assign rfl rfl rfl rfl rfl ?_ | (refine u_cmp rfl rfl rfl rfl rfl rfl rfl (fun h => ?_) (fun h => ?_) <;> (dsimp only [cmpP] at h; (try (exfalso; omega))))) | (with_reducible first | refine u_seq ?_ | refine u_region ?_ | refine u_nil ?_ | refine u_then_n ?_ | refine u_skip ?_ | refine u_block ?_) | ((with_reducible refine u_cond_t ?_ ?_); (· exact rfl))))
      refine u_loop (ι := Nat × Mat) (fun j => j.1 ≤ n ∧ Mid n (fwTo M0 x) (fwTo M0 (x + 1)) i j.1 j.2 ∧ MidD n (fwTo M0 (x + 1)) i j.1) (fun j => [(0, .pointer (some ⟨g, 0, none⟩)), (1, .int .i64 (n : Int)), (9, .int .i64 (n : Int)), (10, .int .i64 (x : Int)), (5, .int .i64 (x : Int)), (13, .int .i64 (n : Int)), (14, .int .i64 (i : Int)), (6, .int .i64 (i : Int)), (17, .int .i64 (n : Int)), (18, .int .i64 (j.1 : Int))]) (fun j => [.blk g (cellsM j.2), .old w (g + 1) w.heap.size]) (fun j => n - j.1) (0, M) ⟨Nat.zero_le _, hM, hD⟩ (by (first | exact fun _ _ h => lk_nil h | (repeat (first | exact (fun _ _ h => lk_nil h) | (refine lk_sub rfl ?_))))) (by (repeat (first | exact Out.nil _ | (refine Out.cons (by (repeat (first | exact Take.here _ _ | apply Take.there))) ?_)))) ?_
      clear hM hD M
      rintro ⟨k, M⟩ ⟨hk, hM, hD⟩
      simp only at hk hM hD ⊢
      by_cases hlk : k < n
      · have m1 : MatI i x := ⟨by omega, by omega⟩
        have m2 : MatI x k := ⟨by omega, by omega⟩
        have m3 : MatI i k := ⟨by omega, by omega⟩
        obtain ⟨f1, f2, f3, f4⟩ := mid_facts h0 hf hlt hli hlk hM
        have b1 := fw_bd13 hb hn (by omega : x ≤ n) hli hlt
        have b2 := fw_bd13 hb hn (by omega : x ≤ n) hlt hlk
        rw [← f1] at b1
        rw [← f2] at b2
        rw [← f1, ← f2, ← f3] at f4
        have hd := fwTo_diag h0 hf
        (repeat' (first | ((with_reducible refine isOps ?_); first | refine u_move rfl rfl rfl rfl rfl ?_ | refine u_assign rfl rfl rfl rfl rfl ?_ | (refine u_cmp rfl rfl rfl rfl rfl rfl rfl (fun h => ?_) (fun h => ?_) <;> (dsimp only [cmpP] at h; (try (exfalso; omega))))) | (with_reducible first | refine u_seq ?_ | refine u_region ?_ | refine u_nil ?_ | refine u_then_n ?_ | refine u_skip ?_ | refine u_block ?_) | ((with_reducible refine u_cond_t ?_ ?_); (· exact rfl))))
        (refine u_chain (by kernel_rfl) [[], [false], [false, false], [false, false, true], [true, false, true, true], [true, true, true, true, true], [true, true, true, true, true, true], [false, false, false, false, false, false, false], [false, false, false, false, false, false, false, false], [false, false, false, false, false, false, false, false, false], [false, false, true, false, false, false, false, false, false, false], [true, false, true, true, false, false, false, false, false, false, false], [true, true, true, true, true, false, false, false, false, false, false, false], [true, true, true, true, true, true, false, false, false, false, false, false, false], [true, true, true, true, true, true, true, true, true, true, true, true, true, true], [true, true, true, true, true, true, true, true, true, true, true, true, true, true, true]] (by kernel_rfl) (by kernel_rfl) ?_)
        (repeat' (first | (((with_reducible refine c_go ?_ ?_); (· exact rfl); refine ⟨_, fun G => (by (try simp only [fltT, entsT, List.nil_append, List.cons_append]); rfl), ?_⟩); first | refine c_val _ (fun _ => e_move rfl rfl) (fun _ => rfl) rfl (by first | exact fun _ _ _ => rfl | (intro G G' h; simp (decide := true) only [h])) ?_ | refine c_val _ (fun _ => e_load' rfl rfl (by exact rfl)) (fun _ => rfl) rfl (by first | exact fun _ _ _ => rfl | (intro G G' h; simp (decide := true) only [h])) ?_ | refine c_val _ (fun _ => e_assign rfl rfl) (fun _ => rfl) rfl (by first | exact fun _ _ _ => rfl | (intro G G' h; simp (decide := true) only [h])) ?_ | refine c_val _ (fun _ => e_add rfl rfl rfl (IntWalk.i64_in _ (by omega))) (fun _ => rfl) rfl (by first | exact fun _ _ _ => rfl | (intro G G' h; simp (decide := true) only [h])) ?_ | refine c_val _ (fun _ => e_indexA rfl rfl rfl rfl (by first | decide | omega)) (fun _ => rfl) rfl (by first | exact fun _ _ _ => rfl | (intro G G' h; simp (decide := true) only [h])) ?_ | refine c_val _ (fun _ => e_nilCheck rfl rfl) (fun _ => rfl) rfl (by first | exact fun _ _ _ => rfl | (intro G G' h; simp (decide := true) only [h])) ?_) | (with_reducible refine c_nil ?_)))
        (intro G; simp only [regsT, entsT, Pend.at_none, List.nil_append, List.cons_append])
        (repeat' (first | ((with_reducible refine isOps ?_); first | refine u_move rfl rfl rfl rfl rfl ?_ | refine u_assign rfl rfl rfl rfl rfl ?_ | (refine x_load rfl rfl rfl rfl rfl ?_; refine ⟨_, rfl, ?_⟩) | (refine u_cmp rfl rfl rfl rfl rfl rfl rfl (fun h => ?_) (fun h => ?_) <;> (dsimp only [cmpP] at h; (try (exfalso; omega)))) | refine u_storeM rfl rfl rfl rfl rfl ?_ | refine u_add1 rfl rfl rfl rfl rfl rfl (by omega) ?_ | refine u_indexA rfl rfl rfl rfl rfl rfl rfl (by first | decide | omega) ?_ | refine u_nilCheck rfl rfl rfl rfl rfl ?_) | (with_reducible first | refine u_seq ?_ | refine u_region ?_ | refine u_nil ?_ | refine u_then_n ?_ | refine u_ret ?_ | refine u_skip ?_ | refine u_then_r ?_ | refine u_in_n ?_ | refine u_in_r ?_) | ((with_reducible refine u_cond_t ?_ ?_); (· exact rfl)) | ((with_reducible refine u_cond_f ?_ ?_); (· exact rfl))))
        · have hfi : i = k := by omega
          subst hfi
          have hv := hd i hli
          refine u_doneM (by (exact ResL.cons (by exact Res1.tmp rfl) ResL.nil)) (false, setM M i i (M i x + M x i)) ⟨fun h => (by cases h), fun _ hh => ?_⟩ rfl hg (by (repeat (first | exact Take.here _ _ | apply Take.there))) (by (repeat (first | exact Take.here _ _ | apply Take.there)))
          have := hh (x + 1) (by omega) i hli
          rw [← f3] at hv
          omega
        · exact u_again (k + 1, setM M i k (M i x + M x k)) ⟨by omega, mid_set hM (by omega), midD_succ hD (fun e => by omega)⟩ (by simp only; omega) (by (first | exact fun _ _ h => lk_nil h | (repeat (first | exact (fun _ _ h => lk_nil h) | (refine lk_sub rfl ?_))))) (by (repeat (first | exact Out.nil _ | (refine Out.cons (by (repeat (first | exact Take.here _ _ | apply Take.there))) ?_))))
        · refine u_again (k + 1, M) ⟨by omega, mid_keep hM hli hlk (by omega), midD_succ hD (fun e => ?_)⟩ (by simp only; omega) (by (first | exact fun _ _ h => lk_nil h | (repeat (first | exact (fun _ _ h => lk_nil h) | (refine lk_sub rfl ?_))))) (by (repeat (first | exact Out.nil _ | (refine Out.cons (by (repeat (first | exact Take.here _ _ | apply Take.there))) ?_))))
          subst e
          have hv := hd i hli
          omega
      · obtain rfl : k = n := by omega
        (repeat' (first | ((with_reducible refine isOps ?_); first | refine u_move rfl rfl rfl rfl rfl ?_ | (refine u_cmp rfl rfl rfl rfl rfl rfl rfl (fun h => ?_) (fun h => ?_) <;> (dsimp only [cmpP] at h; (try (exfalso; omega)))) | refine u_add1 rfl rfl rfl rfl rfl rfl (by omega) ?_) | (with_reducible first | refine u_seq ?_ | refine u_region ?_ | refine u_nil ?_ | refine u_then_n ?_ | refine u_exit ?_ | refine u_in_n ?_ | refine u_in_same ?_ | refine u_then_e ?_) | ((with_reducible refine u_cond_f ?_ ?_); (· exact rfl))))
        exact u_again (i + 1, M) ⟨by omega, mid_row hM, midD_row hD⟩ (by simp only; omega) (by (first | exact fun _ _ h => lk_nil h | (repeat (first | exact (fun _ _ h => lk_nil h) | (refine lk_sub rfl ?_))))) (by (repeat (first | exact Out.nil _ | (refine Out.cons (by (repeat (first | exact Take.here _ _ | apply Take.there))) ?_))))
    · obtain rfl : i = n := by omega
      (repeat' (first | ((with_reducible refine isOps ?_); first | refine u_move rfl rfl rfl rfl rfl ?_ | (refine u_cmp rfl rfl rfl rfl rfl rfl rfl (fun h => ?_) (fun h => ?_) <;> (dsimp only [cmpP] at h; (try (exfalso; omega)))) | refine u_add1 rfl rfl rfl rfl rfl rfl (by omega) ?_) | (with_reducible first | refine u_seq ?_ | refine u_region ?_ | refine u_nil ?_ | refine u_then_n ?_ | refine u_exit ?_ | refine u_in_n ?_ | refine u_in_same ?_ | refine u_then_e ?_) | ((with_reducible refine u_cond_f ?_ ?_); (· exact rfl))))
      exact u_again (x + 1, M) ⟨by omega, fine_succ hf hD, mid_end hM⟩ (by simp only; omega) (by (first | exact fun _ _ h => lk_nil h | (repeat (first | exact (fun _ _ h => lk_nil h) | (refine lk_sub rfl ?_))))) (by (repeat (first | exact Out.nil _ | (refine Out.cons (by (repeat (first | exact Take.here _ _ | apply Take.there))) ?_))))
  · obtain rfl : x = n := by omega
    (repeat' (first | ((with_reducible refine isOps ?_); first | refine u_assign rfl rfl rfl rfl rfl ?_ | (refine u_cmp rfl rfl rfl rfl rfl rfl rfl (fun h => ?_) (fun h => ?_) <;> (dsimp only [cmpP] at h; (try (exfalso; omega))))) | (with_reducible first | refine u_seq ?_ | refine u_region ?_ | refine u_nil ?_ | refine u_then_n ?_ | refine u_ret ?_ | refine u_exit ?_ | refine u_in_same ?_ | refine u_then_e ?_) | ((with_reducible refine u_cond_f ?_ ?_); (· exact rfl))))
    exact u_doneM (by (exact ResL.cons (by exact Res1.tmp rfl) ResL.nil)) (true, M) ⟨fun _ => ⟨hf, hA⟩, fun h => by cases h⟩ rfl hg (by (repeat (first | exact Take.here _ _ | apply Take.there))) (by (repeat (first | exact Take.here _ _ | apply Take.there)))
end Go.Proofs.Ytekjkaoibcfgfaa
