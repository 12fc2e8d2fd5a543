/- Two tracks one behind the other: slices.Grow, slices.Concat. -/
import Derived.Test.YtdigopgncfhiaaaDoorW3
namespace Go.Proofs.YtdigopgncfhiaaaDoor
variable {ro : Option Nat}
open Go.RowKit
set_option maxRecDepth 20000
set_option linter.unusedSimpArgs false
set_option linter.unusedVariables false

theorem run_append_zeros {P : Program} {w : World} (t u ty e : TypeId) (i : TypeInfo) (z : Value) (ht : P.underlying t = some (.slice e)) (hu : P.underlying u = some (.int .i64)) (hi : P.info? e = some i) (hz : i.zero = some z)
    (n : Nat) (h0 : 0 < n) (h63 : (n : Int) ≤ 1000000) (hb : i.bytes ≤ 1000000) (hs : 0 < i.size) :
    (Builtin.append_ #[t, u] ty #[.slice none 0 0, .int .i64 n]).run P w =
      .ok (.slice (some ⟨w.heap.size, 0, none⟩) n (grownCap w n 0 e)) (w.drew.alloc (.cells (Builtin.zeroCells z.cells n ++ Builtin.zeroCells z.cells (grownCap w n 0 e - n)) e)) := by
  have hn : n ≠ 0 := by omega
  have hw : IntKind.i64.wrap (n : Int) = n := IntWalk.i64_in _ (by omega)
  have h63' : ¬ (9223372036854775807 < (n : Int)) := by omega
  have h49 : n * i.bytes ≤ 1000000 * 1000000 := Nat.mul_le_mul (by omega) hb
  have h48' : ¬ (281474976710656 < Builtin.nextslicecap n 0 * i.bytes) := by rw [nextslicecap_zero h0]; omega
  have h50 : ¬ ((281474976710656 : Int) < (n : Int) * (i.bytes : Int)) := by
    have : ((n * i.bytes : Nat) : Int) ≤ ((1000000 * 1000000 : Nat) : Int) := by exact_mod_cast h49
    rw [Int.natCast_mul] at this; omega
  have h51 : ¬ ((n : Int) < 0) := by omega
  have h52 : ¬ n * i.size = 0 := by
    intro h; rcases Nat.mul_eq_zero.1 h with h | h <;> omega
  have h53 : ¬ i.size = 0 := by omega
  simp [Builtin.append_, run_underlying ht, run_underlying hu, sizeOf, typeInfo, zeroValue, hi, hz, Builtin.lenOf, Builtin.firstCells, hn, h63', h48', Question.forced, newRow, grownCap, asInt, asIntOf, hw, h50, h51, h52, h53]

section
variable {P : Program} {w0 : World} {n : Nat} {d : List Deferred} {R : List (Nat × Value)} {H : List Ent} {Q : Exit → Act → World → Prop} {ops : Array Oper} {rest : List Oper} {o : Oper} {t : Tmp} {x y : Operand}
/-- zeros behind nil: a new row, of which nothing is used yet -/
theorem u_append0 {α : Type} (enc : α → List Value) {k e T1 U1 bytes s m : Nat} {g : Bool} [el : ElI P T1 e k bytes] [tu : TyI P U1 (.int .i64) s g] (hop : o.op = .call { callee := .builtin .append, args := #[x, y], argTypes := #[T1, U1] }) (hw : want R ops o = some true) (hd : o.dst = some t) (ht : Nat.blt t n = true)
    (hx : evR R x = some (.slice none 0 0)) (hy : evR R y = some (.int .i64 (m : Int))) (h0 : 0 < m) (hm : m ≤ 1000000 ∧ bytes ≤ 1000000)
    (h : ∀ b c', m ≤ c' → U w0 n d ((t, .slice (some ⟨b, 0, none⟩) m c') :: R) (.row enc k e (.slice (some ⟨b, 0, none⟩) 0 c') ([] : List α) :: H) (wpL ro P ops Q rest)) : U w0 n d R H (wpL ro P ops Q (o :: rest)) :=
  u_op hw fun a w q K hK => by
    obtain ⟨z, hE⟩ := el.el
    obtain ⟨i, i1, i2, i3, i4⟩ := hE.info
    have hp := hE.pos
    have key := run_append_zeros (P := P) (w := w) T1 U1 o.type e i z hE.under tu.und i1 i2 m h0 (by omega) (by omega) (by omega)
    unfold Oper.wp execOp
    simp only [hop, resolve, invoke, builtin, Sem.run_bind, Sem.run_pure, Result.andThen_ok, List.map_toArray, List.map_cons, List.map_nil, q.ev hx, q.ev hy, key, Oper.upon_value, hd]
    have hge := grownCap_ge w m 0 e
    refine hK _ _ (h w.heap.size _ hge _ _ (Kn.put (q.call (E := [.row enc k e (.slice (some ⟨w.heap.size, 0, none⟩) 0 (grownCap w m 0 e)) ([] : List α)]) ?_ ⟨?_, ?_, by simp⟩) ht))
    · exact ⟨rfl, rfl, rfl, by simp, fun k hk => Below.heap_alloc _ _ _ hk⟩
    · intro f hf
      simp only [List.mem_singleton] at hf
      subst hf
      refine (?_ : World.ownsRow _ 0 e k (.slice (some ⟨w.heap.size, 0, none⟩) 0 (grownCap w m 0 e)) 0 [])
      refine ⟨by simp, .inr ⟨w.heap.size, _, _, rfl, Nat.zero_le _, heap_alloc_new w.drew _, Nat.zero_le _, grownCap_le_maxLen w m 0 e (by unfold maxLen; omega), ?_, by simp⟩⟩
      simp only [Array.size_append, size_zeroCells, hE.zs, ← Nat.add_mul]
      congr 1
      omega
    · intro f hf b hb
      simp only [List.mem_singleton] at hf
      subst hf
      cases hb
      simp
/-- s[:M] -/
theorem u_sliceTo {T1 e : TypeId} {td : TypeDesc} {s s' m c : Nat} {g g' : Bool} {A : Option Addr} {hi : Option Operand} {u : Int} (M : Nat) (hop : o.op = .slice T1 x none hi none) [i1 : TyI P T1 (.slice e) s g] [i2 : TyI P e td s' g'] (hw : want R ops o = some true) (hd : o.dst = some t) (ht : Nat.blt t n = true) (hx : evR R x = some (.slice A m c))
    (hu : bnd R hi m = some u) (hM : u = (M : Int)) (h2 : M ≤ c) (hA : A.map (·.add 0) = A)
    (h : U w0 n d ((t, .slice A M c) :: R) H (wpL ro P ops Q rest)) : U w0 n d R H (wpL ro P ops Q (o :: rest)) := by
  subst hM
  refine u_val (v := .slice A M c) hw hd ht (fun a w q => ?_) h
  unfold execOp; rw [hop]
  have e1 := run_underlying i1.und w
  have e2 := i2.siz w
  have b1 : ∀ (r : Nat) (code : BoundsCode) (z : Nat), z ≤ r → ∀ k, (Instr.sliceBound (.int k (z : Int)) r code).run P w = .ok z w := fun r code z hz k => by
    simp [Instr.sliceBound, asIntOf, hz]
  have hhi : (∃ k, hi.map a.eval = some (.int k (M : Int))) ∨ (hi = none ∧ M = m) := by
    cases hi with
    | none => simp only [bnd, Option.some.injEq] at hu; exact .inr ⟨rfl, by omega⟩
    | some y =>
      simp only [bnd] at hu
      cases hy : evR R y with
      | none => rw [hy] at hu; simp at hu
      | some v =>
        rw [hy] at hu
        cases v <;> simp at hu
        rename_i k i
        subst hu
        exact .inl ⟨k, by simp [q.ev hy]⟩
  have hA' : ∀ z : Nat, z = 0 → A.map (·.add z) = A := fun z hz => by rw [hz]; exact hA
  rcases hhi with ⟨k2, hhi⟩ | ⟨hhi, rfl⟩ <;>
    simp [Instr.sliceAt, Instr.slice, e1, e2, q.ev hx, Instr.sliceBounds, hhi, b1, h2, hA]
end

end Go.Proofs.YtdigopgncfhiaaaDoor
/- Two tracks one behind the other: slices.Concat. -/
namespace Go.Proofs.YtdigopgncfhiaaaDoor
variable {ro : Option Nat}
set_option linter.unusedVariables false
open Go.RowKit
set_option maxRecDepth 20000
set_option linter.unusedSimpArgs false

def sz2 (la lb : Int) : Nat → Int
  | 0 => 0
  | 1 => 0 + la
  | _ => 0 + la + lb
def part2 {α : Type} (a b : List α) : Nat → List α
  | 0 => []
  | 1 => a
  | _ => a ++ b

theorem sz2_0 {la lb : Int} : sz2 la lb 0 = 0 := rfl
theorem sz2_1 {la lb : Int} : sz2 la lb 1 = 0 + la := rfl
theorem sz2_2 {la lb : Int} : sz2 la lb 2 = 0 + la + lb := rfl
theorem part2_0 {α : Type} {a b : List α} : part2 a b 0 = [] := rfl
theorem part2_1 {α : Type} {a b : List α} : part2 a b 1 = a := rfl
theorem part2_2 {α : Type} {a b : List α} : part2 a b 2 = a ++ b := rfl

end Go.Proofs.YtdigopgncfhiaaaDoor
