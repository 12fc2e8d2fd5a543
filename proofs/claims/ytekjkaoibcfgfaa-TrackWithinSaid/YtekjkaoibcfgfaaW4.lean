/- Two tracks one behind the other: slices.Grow, slices.Concat. -/
import Derived.Test.YtekjkaoibcfgfaaW3
namespace Go.Proofs.Ytekjkaoibcfgfaa
open Go.RowKit
set_option maxRecDepth 20000
set_option linter.unusedSimpArgs false
set_option linter.unusedVariables false

theorem run_append_zeros {P : Program} {w : World} (t u ty e : TypeId) (i : TypeInfo) (z : Value) (ht : P.underlying t = some (.slice e)) (hu : P.underlying u = some (.int .i64)) (hi : P.info? e = some i) (hz : i.zero = some z)
    (n : Nat) (h0 : 0 < n) (h63 : (n : Int) ≤ 1000000) (hb : i.bytes ≤ 1000000) (hs : 0 < i.size) :
    (Builtin.append_ #[t, u] ty #[.slice none 0 0, .int .i64 n]).run P w =
      .ok (.slice (some ⟨w.heap.size, 0, none⟩) n (grownCap w n 0 e)) (w.drew.alloc (.cells (Builtin.zeroCells z.cells n ++ Builtin.zeroCells z.cells (grownCap w n 0 e - n)) e)) := by
  have hn : n ≠ 0 := by omega
  have hw : IntKind.i64.wrap (n : Int) = n := IntWalk.i64_in _ (by omega)
  have h63' : ¬ (9223372036854775807 < (n : Int)) := by omega
  have h49 : n * i.bytes ≤ 1000000 * 1000000 := Nat.mul_le_mul (by omega) hb
  have h48' : ¬ (281474976710656 < Builtin.nextslicecap n 0 * i.bytes) := by rw [nextslicecap_zero h0]; omega
  have h50 : ¬ ((281474976710656 : Int) < (n : Int) * (i.bytes : Int)) := by
    have : ((n * i.bytes : Nat) : Int) ≤ ((1000000 * 1000000 : Nat) : Int) := by exact_mod_cast h49
    rw [Int.natCast_mul] at this; omega
  have h51 : ¬ ((n : Int) < 0) := by omega
  have h52 : ¬ n * i.size = 0 := by
    intro h; rcases Nat.mul_eq_zero.1 h with h | h <;> omega
  have h53 : ¬ i.size = 0 := by omega
  simp [Builtin.append_, run_underlying ht, run_underlying hu, sizeOf, typeInfo, zeroValue, hi, hz, Builtin.lenOf, Builtin.firstCells, hn, h63', h48', Question.forced, newRow, grownCap, asInt, asIntOf, hw, h50, h51, h52, h53]

section
variable {P : Program} {w0 : World} {n : Nat} {d : List Deferred} {R : List (Nat × Value)} {H : List Ent} {Q : Exit → Act → World → Prop} {ops : Array Oper} {rest : List Oper} {o : Oper} {t : Tmp} {x y : Operand}
/-- zeros behind nil: a new row, of which nothing is used yet -/
theorem u_append0 {α : Type} (enc : α → List Value) {k e T1 U1 bytes s m : Nat} {g : Bool} [el : ElI P T1 e k bytes] [tu : TyI P U1 (.int .i64) s g] (hop : o.op = .call { callee := .builtin .append, args := #[x, y], argTypes := #[T1, U1] }) (hw : want R ops o = some true) (hd : o.dst = some t) (ht : Nat.blt t n = true)
    (hx : evR R x = some (.slice none 0 0)) (hy : evR R y = some (.int .i64 (m : Int))) (h0 : 0 < m) (hm : m ≤ 1000000 ∧ bytes ≤ 1000000)
    (h : ∀ b c', m ≤ c' → U w0 n d ((t, .slice (some ⟨b, 0, none⟩) m c') :: R) (.row enc k e (.slice (some ⟨b, 0, none⟩) 0 c') ([] : List α) :: H) (wpList P ops Q rest)) : U w0 n d R H (wpList P ops Q (o :: rest)) :=
  u_op hw fun a w q K hK => by
    obtain ⟨z, hE⟩ := el.el
    obtain ⟨i, i1, i2, i3, i4⟩ := hE.info
    have hp := hE.pos
    have key := run_append_zeros (P := P) (w := w) T1 U1 o.type e i z hE.under tu.und i1 i2 m h0 (by omega) (by omega) (by omega)
    unfold Oper.wp execOp
    simp only [hop, resolve, invoke, builtin, Sem.run_bind, Sem.run_pure, Result.andThen_ok, List.map_toArray, List.map_cons, List.map_nil, q.ev hx, q.ev hy, key, Oper.upon_value, hd]
    have hge := grownCap_ge w m 0 e
    refine hK _ _ (h w.heap.size _ hge _ _ (Kn.put (q.call (E := [.row enc k e (.slice (some ⟨w.heap.size, 0, none⟩) 0 (grownCap w m 0 e)) ([] : List α)]) ?_ ⟨?_, ?_, by simp⟩) ht))
    · exact ⟨rfl, rfl, rfl, by simp, fun k hk => Below.heap_alloc _ _ _ hk⟩
    · intro f hf
      simp only [List.mem_singleton] at hf
      subst hf
      refine (?_ : World.ownsRow _ 0 e k (.slice (some ⟨w.heap.size, 0, none⟩) 0 (grownCap w m 0 e)) 0 [])
      refine ⟨by simp, .inr ⟨w.heap.size, _, _, rfl, Nat.zero_le _, heap_alloc_new w.drew _, Nat.zero_le _, grownCap_le_maxLen w m 0 e (by unfold maxLen; omega), ?_, by simp⟩⟩
      simp only [Array.size_append, size_zeroCells, hE.zs, ← Nat.add_mul]
      congr 1
      omega
    · intro f hf b hb
      simp only [List.mem_singleton] at hf
      subst hf
      cases hb
      simp
/-- s[:M] -/
theorem u_sliceTo {T1 e : TypeId} {td : TypeDesc} {s s' m c : Nat} {g g' : Bool} {A : Option Addr} {hi : Option Operand} {u : Int} (M : Nat) (hop : o.op = .slice T1 x none hi none) [i1 : TyI P T1 (.slice e) s g] [i2 : TyI P e td s' g'] (hw : want R ops o = some true) (hd : o.dst = some t) (ht : Nat.blt t n = true) (hx : evR R x = some (.slice A m c))
    (hu : bnd R hi m = some u) (hM : u = (M : Int)) (h2 : M ≤ c) (hA : A.map (·.add 0) = A)
    (h : U w0 n d ((t, .slice A M c) :: R) H (wpList P ops Q rest)) : U w0 n d R H (wpList P ops Q (o :: rest)) := by
  subst hM
  refine u_val (v := .slice A M c) hw hd ht (fun a w q => ?_) h
  unfold execOp; rw [hop]
  have e1 := run_underlying i1.und w
  have e2 := i2.siz w
  have b1 : ∀ (r : Nat) (code : BoundsCode) (z : Nat), z ≤ r → ∀ k, (Instr.sliceBound (.int k (z : Int)) r code).run P w = .ok z w := fun r code z hz k => by
    simp [Instr.sliceBound, asIntOf, hz]
  have hhi : (∃ k, hi.map a.eval = some (.int k (M : Int))) ∨ (hi = none ∧ M = m) := by
    cases hi with
    | none => simp only [bnd, Option.some.injEq] at hu; exact .inr ⟨rfl, by omega⟩
    | some y =>
      simp only [bnd] at hu
      cases hy : evR R y with
      | none => rw [hy] at hu; simp at hu
      | some v =>
        rw [hy] at hu
        cases v <;> simp at hu
        rename_i k i
        subst hu
        exact .inl ⟨k, by simp [q.ev hy]⟩
  have hA' : ∀ z : Nat, z = 0 → A.map (·.add z) = A := fun z hz => by rw [hz]; exact hA
  rcases hhi with ⟨k2, hhi⟩ | ⟨hhi, rfl⟩ <;>
    simp [Instr.sliceAt, Instr.slice, e1, e2, q.ev hx, Instr.sliceBounds, hhi, b1, h2, hA]
end

set_option maxHeartbeats 1000000 in
theorem grow_any (m : Nat) (w : World) (h0 : 0 < m) (hm : m ≤ 1000) : Ret Try.prog 90 [.slice none 0 0, .int .i64 (m : Int)] w (fun p : Nat × Nat => .slice (some ⟨p.1, 0, none⟩) 0 p.2) (fun p => [.row encSt 9 82 (.slice (some ⟨p.1, 0, none⟩) 0 p.2) ([] : List St)]) (fun p => m ≤ p.2) := by
  (refine ret_enter (n := 27) Try.func90 rfl rfl rfl ?_)
  (repeat' (first | ((with_reducible refine isOps ?_); first | refine u_move rfl rfl rfl rfl rfl ?_ | refine u_assign rfl rfl rfl rfl rfl ?_ | (refine u_cmp rfl rfl rfl rfl rfl rfl rfl (fun h => ?_) (fun h => ?_) <;> (dsimp only [cmpP] at h; (try (exfalso; omega)))) | refine u_sliceTo 0 rfl rfl rfl rfl rfl (by exact rfl) rfl (by omega) (by first | exact rfl | simp [Addr.add]) ?_ | (refine u_append0 encSt (m := m) rfl rfl rfl rfl rfl (by rw [show (m : Int) = (m : Int) - (((0 : Nat) : Int) - ((0 : Nat) : Int)) by omega]; exact rfl) h0 (by omega) (fun b c' hc => ?_)) | refine u_sub rfl rfl rfl rfl rfl rfl (IntWalk.i64_in _ (by omega)) ?_ | refine u_len rfl rfl rfl rfl rfl ?_ | refine u_cap rfl rfl rfl rfl rfl ?_) | (with_reducible first | refine u_seq ?_ | refine u_region ?_ | refine u_nil ?_ | refine u_then_n ?_ | refine u_ret ?_ | refine u_skip ?_) | ((with_reducible refine u_cond_t ?_ ?_); (· exact rfl)) | ((with_reducible refine u_cond_f ?_ ?_); (· exact rfl))))
  exact u_done (by (exact ResL.cons (by exact Res1.tmp rfl) ResL.nil)) (b, c') hc rfl (fun _ h => h.sub (by (repeat (first | exact Out.nil _ | (refine Out.cons (by (repeat (first | exact Take.here _ _ | apply Take.there))) ?_)))))
end Go.Proofs.Ytekjkaoibcfgfaa
/- Two tracks one behind the other: slices.Concat. -/
namespace Go.Proofs.Ytekjkaoibcfgfaa
set_option linter.unusedVariables false
open Go.RowKit
set_option maxRecDepth 20000
set_option linter.unusedSimpArgs false

def sz2 (la lb : Int) : Nat → Int
  | 0 => 0
  | 1 => 0 + la
  | _ => 0 + la + lb
def part2 {α : Type} (a b : List α) : Nat → List α
  | 0 => []
  | 1 => a
  | _ => a ++ b

theorem sz2_0 {la lb : Int} : sz2 la lb 0 = 0 := rfl
theorem sz2_1 {la lb : Int} : sz2 la lb 1 = 0 + la := rfl
theorem sz2_2 {la lb : Int} : sz2 la lb 2 = 0 + la + lb := rfl
theorem part2_0 {α : Type} {a b : List α} : part2 a b 0 = [] := rfl
theorem part2_1 {α : Type} {a b : List α} : part2 a b 1 = a := rfl
theorem part2_2 {α : Type} {a b : List α} : part2 a b 2 = a ++ b := rfl

set_option maxHeartbeats 2000000 in
theorem concat_any (a b : List St) (A B : Option Addr) (ca cb bb : Nat) (w : World) (ha : SlAt encSt 9 w A a) (hb : SlAt encSt 9 w B b) (h0 : 0 < a.length + b.length) (hl : a.length ≤ 100 ∧ b.length ≤ 100) (h1 : InC w bb 0 [.slice A a.length ca, .slice B b.length cb]) :
    NewSl encSt 9 (a ++ b) (fun v => v) Try.prog 73 [.slice (some ⟨bb, 0, none⟩) 2 2] w := by
  unfold NewSl
  (refine ret_enter (n := 36) Try.func73 rfl rfl rfl ?_)
  (repeat' (first | ((with_reducible refine isOps ?_); first | refine u_move rfl rfl rfl rfl rfl ?_ | refine u_assign rfl rfl rfl rfl rfl ?_ | refine u_len rfl rfl rfl rfl rfl ?_) | (with_reducible first | refine u_seq ?_ | refine u_region ?_ | refine u_nil ?_ | refine u_then_n ?_ | refine u_block ?_)))
  refine u_loop (ι := Nat) (fun i => i ≤ 2) (fun i => [(0, .slice (some ⟨bb, 0, none⟩) 2 2), (3, .int .i64 (sz2 a.length b.length i)), (9, .slice (some ⟨bb, 0, none⟩) 2 2), (10, .int .i64 ((2 : Nat) : Int)), (11, .int .i64 (i : Int))]) (fun _ => []) (fun i => 2 - i) 0 (by omega) (by (first | exact fun _ _ h => lk_nil h | (repeat (first | exact (fun _ _ h => lk_nil h) | (refine lk_sub rfl ?_))))) (by (repeat (first | exact Out.nil _ | (refine Out.cons (by (repeat (first | exact Take.here _ _ | apply Take.there))) ?_)))) ?_
  intro i hi
  rcases (by omega : i = 0 ∨ i = 1 ∨ i = 2) with rfl | rfl | rfl
  · rw [sz2_0]
    (repeat' (first | ((with_reducible refine isOps ?_); first | refine u_move rfl rfl rfl rfl rfl ?_ | refine u_assign rfl rfl rfl rfl rfl ?_ | (refine x_load rfl rfl rfl rfl rfl ?_; refine ⟨_, rfl, ?_⟩) | (refine u_cmp rfl rfl rfl rfl rfl rfl rfl (fun h => ?_) (fun h => ?_) <;> (dsimp only [cmpP] at h; (try (exfalso; omega)))) | refine u_add1 rfl rfl rfl rfl rfl rfl (by omega) ?_ | refine u_add rfl rfl rfl rfl rfl rfl (IntWalk.i64_in _ (by omega)) ?_ | refine u_index rfl rfl rfl rfl rfl rfl rfl (by omega) ?_ | refine u_len rfl rfl rfl rfl rfl ?_) | (with_reducible first | refine u_seq ?_ | refine u_region ?_ | refine u_nil ?_ | refine u_then_n ?_ | refine u_skip ?_ | refine u_block ?_ | refine u_in_n ?_) | ((with_reducible refine u_cond_t ?_ ?_); (· exact rfl)) | ((with_reducible refine u_cond_f ?_ ?_); (· exact rfl))))
    exact u_again 1 (by omega) (by omega) (by (first | exact fun _ _ h => lk_nil h | (repeat (first | exact (fun _ _ h => lk_nil h) | (refine lk_sub rfl ?_))))) (by (repeat (first | exact Out.nil _ | (refine Out.cons (by (repeat (first | exact Take.here _ _ | apply Take.there))) ?_))))
  · rw [sz2_1]
    (repeat' (first | ((with_reducible refine isOps ?_); first | refine u_move rfl rfl rfl rfl rfl ?_ | refine u_assign rfl rfl rfl rfl rfl ?_ | (refine x_load rfl rfl rfl rfl rfl ?_; refine ⟨_, rfl, ?_⟩) | (refine u_cmp rfl rfl rfl rfl rfl rfl rfl (fun h => ?_) (fun h => ?_) <;> (dsimp only [cmpP] at h; (try (exfalso; omega)))) | refine u_add1 rfl rfl rfl rfl rfl rfl (by omega) ?_ | refine u_add rfl rfl rfl rfl rfl rfl (IntWalk.i64_in _ (by omega)) ?_ | refine u_index rfl rfl rfl rfl rfl rfl rfl (by omega) ?_ | refine u_len rfl rfl rfl rfl rfl ?_) | (with_reducible first | refine u_seq ?_ | refine u_region ?_ | refine u_nil ?_ | refine u_then_n ?_ | refine u_skip ?_ | refine u_block ?_ | refine u_in_n ?_) | ((with_reducible refine u_cond_t ?_ ?_); (· exact rfl)) | ((with_reducible refine u_cond_f ?_ ?_); (· exact rfl))))
    exact u_again 2 (by omega) (by omega) (by (first | exact fun _ _ h => lk_nil h | (repeat (first | exact (fun _ _ h => lk_nil h) | (refine lk_sub rfl ?_))))) (by (repeat (first | exact Out.nil _ | (refine Out.cons (by (repeat (first | exact Take.here _ _ | apply Take.there))) ?_))))
  rw [sz2_2]
  have hg := fun W => grow_any (a.length + b.length) W h0 (by omega)
  rw [show ((a.length + b.length : Nat) : Int) = 0 + (a.length : Int) + (b.length : Int) by omega] at hg
  (repeat' (first | ((with_reducible refine isOps ?_); first | refine u_move rfl rfl rfl rfl rfl ?_ | refine u_assign rfl rfl rfl rfl rfl ?_ | (refine u_cmp rfl rfl rfl rfl rfl rfl rfl (fun h => ?_) (fun h => ?_) <;> (dsimp only [cmpP] at h; (try (exfalso; omega)))) | (refine u_call rfl rfl rfl rfl rfl rfl (fun _ w _ => hg w) ?_; rintro ⟨g, c0⟩ hc0; dsimp only [List.cons_append, List.nil_append] at hc0 ⊢) | refine u_len rfl rfl rfl rfl rfl ?_) | (with_reducible first | refine u_seq ?_ | refine u_region ?_ | refine u_nil ?_ | refine u_then_n ?_ | refine u_block ?_ | refine u_exit ?_ | refine u_in_same ?_ | refine u_then_e ?_) | ((with_reducible refine u_cond_f ?_ ?_); (· exact rfl))))
  refine u_loop (ι := Nat × Value) (fun i => i.1 ≤ 2) (fun i => [(6, i.2), (25, .slice (some ⟨bb, 0, none⟩) 2 2), (26, .int .i64 ((2 : Nat) : Int)), (27, .int .i64 (i.1 : Int))]) (fun i => [.row encSt 9 82 i.2 (part2 a b i.1)]) (fun i => 2 - i.1) (0, .slice (some ⟨g, 0, none⟩) 0 c0) (by simp) (by (first | exact fun _ _ h => lk_nil h | (repeat (first | exact (fun _ _ h => lk_nil h) | (refine lk_sub rfl ?_))))) (by (repeat (first | exact Out.nil _ | (refine Out.cons (by (repeat (first | exact Take.here _ _ | apply Take.there))) ?_)))) ?_
  rintro ⟨i, v⟩ hi
  simp only at hi ⊢
  rcases (by omega : i = 0 ∨ i = 1 ∨ i = 2) with rfl | rfl | rfl
  · rw [part2_0]
    (repeat' (first | ((with_reducible refine isOps ?_); first | refine u_move rfl rfl rfl rfl rfl ?_ | refine u_assign rfl rfl rfl rfl rfl ?_ | (refine x_load rfl rfl rfl rfl rfl ?_; refine ⟨_, rfl, ?_⟩) | (refine u_cmp rfl rfl rfl rfl rfl rfl rfl (fun h => ?_) (fun h => ?_) <;> (dsimp only [cmpP] at h; (try (exfalso; omega)))) | (refine u_append (enc := encSt) a rfl rfl rfl rfl rfl (by (repeat (first | exact Take.here _ _ | apply Take.there))) rfl rfl (src_in ha) (by refine ⟨?_, by decide⟩; (try simp only [List.length_append, List.length_cons, List.length_nil]); omega) (fun A' c' => ?_)) | refine u_add1 rfl rfl rfl rfl rfl rfl (by omega) ?_ | refine u_index rfl rfl rfl rfl rfl rfl rfl (by omega) ?_) | (with_reducible first | refine u_seq ?_ | refine u_region ?_ | refine u_nil ?_ | refine u_then_n ?_ | refine u_skip ?_ | refine u_block ?_ | refine u_in_n ?_) | ((with_reducible refine u_cond_t ?_ ?_); (· exact rfl))))
    exact u_again (1, .slice A' ([] ++ a).length c') (by simp) (by simp) (by (first | exact fun _ _ h => lk_nil h | (repeat (first | exact (fun _ _ h => lk_nil h) | (refine lk_sub rfl ?_))))) (by (repeat (first | exact Out.nil _ | (refine Out.cons (by (repeat (first | exact Take.here _ _ | apply Take.there))) ?_))))
  · rw [part2_1]
    (repeat' (first | ((with_reducible refine isOps ?_); first | refine u_move rfl rfl rfl rfl rfl ?_ | refine u_assign rfl rfl rfl rfl rfl ?_ | (refine x_load rfl rfl rfl rfl rfl ?_; refine ⟨_, rfl, ?_⟩) | (refine u_cmp rfl rfl rfl rfl rfl rfl rfl (fun h => ?_) (fun h => ?_) <;> (dsimp only [cmpP] at h; (try (exfalso; omega)))) | (refine u_append (enc := encSt) b rfl rfl rfl rfl rfl (by (repeat (first | exact Take.here _ _ | apply Take.there))) rfl rfl (src_in hb) (by refine ⟨?_, by decide⟩; (try simp only [List.length_append, List.length_cons, List.length_nil]); omega) (fun A' c' => ?_)) | refine u_add1 rfl rfl rfl rfl rfl rfl (by omega) ?_ | refine u_index rfl rfl rfl rfl rfl rfl rfl (by omega) ?_) | (with_reducible first | refine u_seq ?_ | refine u_region ?_ | refine u_nil ?_ | refine u_then_n ?_ | refine u_skip ?_ | refine u_block ?_ | refine u_in_n ?_) | ((with_reducible refine u_cond_t ?_ ?_); (· exact rfl))))
    exact u_again (2, .slice A' (a ++ b).length c') (by simp) (by simp) (by (first | exact fun _ _ h => lk_nil h | (repeat (first | exact (fun _ _ h => lk_nil h) | (refine lk_sub rfl ?_))))) (by (repeat (first | exact Out.nil _ | (refine Out.cons (by (repeat (first | exact Take.here _ _ | apply Take.there))) ?_))))
  rw [part2_2]
  (repeat' (first | ((with_reducible refine isOps ?_); first | refine u_move rfl rfl rfl rfl rfl ?_ | refine u_assign rfl rfl rfl rfl rfl ?_ | (refine u_cmp rfl rfl rfl rfl rfl rfl rfl (fun h => ?_) (fun h => ?_) <;> (dsimp only [cmpP] at h; (try (exfalso; omega))))) | (with_reducible first | refine u_seq ?_ | refine u_region ?_ | refine u_nil ?_ | refine u_then_n ?_ | refine u_ret ?_ | refine u_exit ?_ | refine u_in_same ?_ | refine u_then_e ?_) | ((with_reducible refine u_cond_f ?_ ?_); (· exact rfl))))
  refine u_row_form (enc := encSt) (by (repeat (first | exact Take.here _ _ | apply Take.there))) ?_
  rintro A2 c2 rfl
  exact u_done (by (exact ResL.cons (by exact Res1.tmp rfl) ResL.nil)) (A2, c2) trivial rfl (fun _ h => (h.row_sl (by (repeat (first | exact Take.here _ _ | apply Take.there)))).sub (by (repeat (first | exact Out.nil _ | (refine Out.cons (by (repeat (first | exact Take.here _ _ | apply Take.there))) ?_)))))
end Go.Proofs.Ytekjkaoibcfgfaa
