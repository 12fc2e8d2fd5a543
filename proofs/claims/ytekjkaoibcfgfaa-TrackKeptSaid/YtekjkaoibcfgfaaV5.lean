/- The reference's marks; where a place may be. -/
import Derived.Test.YtekjkaoibcfgfaaV4
import Derived.Test.YtekjkaoibcfgfaaDrop
import Derived.Test.YtekjkaoibcfgfaaMarks
namespace Go.Proofs.Ytekjkaoibcfgfaa
set_option linter.unusedVariables false
open Go.RowKit
set_option maxRecDepth 20000
set_option linter.unusedSimpArgs false

theorem newSl_of {α : Type} {enc : α → List Value} {k : Nat} {xs : List α} {V : Value → Value} {f : FuncId} {args : List Value} {w : World} (h : Does f args.toArray w fun u w' => ∃ v, u = V v ∧ Gets w.heap.size enc k w' v xs) : NewSl enc k xs V Try.prog f args w := by
  unfold NewSl
  refine Ret.of (Calls.mono h ?_)
  rintro e w' ⟨u, rfl, hb, v, rfl, A, c, rfl, hs, hbd⟩
  refine ⟨(A, c), trivial, rfl, hb, ?_, ?_, by simp⟩
  · intro e he
    simp only [List.mem_singleton] at he
    subst he
    exact hs
  · intro e he b hb'
    simp only [List.mem_singleton] at he
    subst he
    obtain ⟨o, hA⟩ := hb'
    exact hbd b o hA

theorem marks_len (t : List St) : (marks t).length = t.length + 1 := by simp [marks]
theorem marks_get (t : List St) {i : Nat} (h : i ≤ t.length) : (marks t)[i]? = some (mark t i) := by
  simp [marks, show i < t.length + 1 by omega]
theorem marks_take (t : List St) {i : Nat} (h : i ≤ t.length) : (List.range (i + 1)).map (mark t) = (List.range i).map (mark t) ++ [mark t i] := by
  simp [List.range_succ]

set_option maxHeartbeats 1000000 in
theorem rmarks_n (t : List St) (A : Option Addr) (cap : Nat) (w : World) (ht : SlAt encSt 9 w A t) (ho : ∀ s ∈ t, Okay s) (hl : t.length ≤ 1000) :
    NewSl encSp 2 (marks t) (fun v => v) Try.prog 58 [vT A t.length cap] w := by
  unfold NewSl vT
  (refine ret_enter (n := 25) Try.func58 rfl rfl rfl ?_)
  (repeat' (first | ((with_reducible refine isOps ?_); first | refine u_assign rfl rfl rfl rfl rfl ?_ | (refine u_box rfl rfl rfl rfl rfl rfl (fun b => ?_))) | (with_reducible first | refine u_seq ?_ | refine u_region ?_ | refine u_nil ?_ | refine u_then_n ?_ | refine u_block ?_)))
  refine u_row_nil encSp 2 34 ?_
  refine u_loop (ι := Nat × Value) (fun i => i.1 ≤ t.length + 1) (fun i => [(1, .pointer (some ⟨b, 0, none⟩)), (3, i.2), (4, .int .i64 (i.1 : Int))]) (fun i => [.row encSp 2 34 i.2 ((List.range i.1).map (mark t)), .blk b [.slice A t.length cap]]) (fun i => t.length + 1 - i.1) (0, .slice none 0 0) (Nat.zero_le _) (by (first | exact fun _ _ h => lk_nil h | (repeat (first | exact (fun _ _ h => lk_nil h) | (refine lk_sub rfl ?_))))) (by (repeat (first | exact Out.nil _ | (refine Out.cons (by (repeat (first | exact Take.here _ _ | apply Take.there))) ?_)))) ?_
  rintro ⟨i, v⟩ hi
  simp only at hi ⊢
  have hrl : ((List.range i).map (mark t)).length = i := by simp
  by_cases hlt : i ≤ t.length
  · have hc := fun W (h : Below w.heap.size w W) => (rdrop_any t A cap 0 i W (ht.below h) ho (Nat.zero_le _) hlt hl).gv
    unfold vT at hc
    (repeat' (first | ((with_reducible refine isOps ?_); first | refine u_move rfl rfl rfl rfl rfl ?_ | refine u_assign rfl rfl rfl rfl rfl ?_ | (refine x_load rfl rfl rfl rfl rfl ?_; refine ⟨_, rfl, ?_⟩) | refine u_field rfl rfl rfl rfl rfl ?_ | (refine u_cmp rfl rfl rfl rfl rfl rfl rfl (fun h => ?_) (fun h => ?_) <;> (dsimp only [cmpP] at h; (try (exfalso; omega)))) | refine u_gives rfl rfl rfl rfl rfl rfl (fun _ _ q => hc _ q.below) ?_ | (refine u_append (enc := encSp) [_] rfl rfl rfl rfl rfl (by (repeat (first | exact Take.here _ _ | apply Take.there))) rfl rfl (src_one (by exact rfl)) (by refine ⟨?_, by decide⟩; (try simp only [List.length_append, List.length_cons, List.length_nil]); omega) (fun A' c' => ?_)) | refine u_extract rfl rfl rfl rfl rfl rfl ?_ | refine u_add1 rfl rfl rfl rfl rfl rfl (by omega) ?_ | refine u_len rfl rfl rfl rfl rfl ?_ | (refine x_store rfl rfl rfl rfl rfl ?_; refine And.intro rfl (And.intro (by first | decide | exact Nat.le_of_ble_eq_true rfl | (simp; omega)) ⟨_, rfl, ?_⟩)) | (refine u_alloc rfl rfl rfl rfl (fun b => ?_)) | (refine x_buildSlice rfl rfl rfl rfl rfl ?_; refine ⟨rfl, _, rfl, fun b => ?_⟩)) | (with_reducible first | refine u_seq ?_ | refine u_region ?_ | refine u_nil ?_ | refine u_then_n ?_ | refine u_skip ?_ | refine u_block ?_ | refine u_in_n ?_) | ((with_reducible refine u_cond_t ?_ ?_); (· exact rfl))))
    refine u_again (i + 1, .slice A' ((List.range i).map (mark t) ++ [mark t i]).length c') (by simp only; omega) (by simp only; omega) (by (first | exact fun _ _ h => lk_nil h | (repeat (first | exact (fun _ _ h => lk_nil h) | (refine lk_sub rfl ?_))))) ?_
    rw [marks_take t hlt]
    (repeat (first | exact Out.nil _ | (refine Out.cons (by (repeat (first | exact Take.here _ _ | apply Take.there))) ?_)))
  · obtain rfl : i = t.length + 1 := by omega
    (repeat' (first | ((with_reducible refine isOps ?_); first | refine u_move rfl rfl rfl rfl rfl ?_ | refine u_assign rfl rfl rfl rfl rfl ?_ | (refine x_load rfl rfl rfl rfl rfl ?_; refine ⟨_, rfl, ?_⟩) | refine u_field rfl rfl rfl rfl rfl ?_ | (refine u_cmp rfl rfl rfl rfl rfl rfl rfl (fun h => ?_) (fun h => ?_) <;> (dsimp only [cmpP] at h; (try (exfalso; omega)))) | refine u_len rfl rfl rfl rfl rfl ?_) | (with_reducible first | refine u_seq ?_ | refine u_region ?_ | refine u_nil ?_ | refine u_then_n ?_ | refine u_ret ?_ | refine u_exit ?_ | refine u_in_same ?_ | refine u_then_e ?_) | ((with_reducible refine u_cond_f ?_ ?_); (· exact rfl))))
    refine u_row_form (enc := encSp) (by (repeat (first | exact Take.here _ _ | apply Take.there))) ?_
    rintro A' c' rfl
    exact u_done (by (exact ResL.cons (by exact Res1.tmp rfl) ResL.nil)) (A', c') trivial (by simp [marks, resV]) (fun _ h => (h.row_sl (by (repeat (first | exact Take.here _ _ | apply Take.there)))).sub (by (repeat (first | exact Out.nil _ | (refine Out.cons (by (repeat (first | exact Take.here _ _ | apply Take.there))) ?_)))))

theorem marksT_yes {t : List St} (h : valid t = true) : marksT t = marks t := by simp [marksT, h]
theorem marksT_no {t : List St} (h : valid t = false) : marksT t = [] := by simp [marksT, h]
set_option maxHeartbeats 1000000 in
theorem rMarks_n (t : List St) (A : Option Addr) (cap : Nat) (w : World) (ht : SlAt encSt 9 w A t) (hf : FitT t) (hl : t.length ≤ 1000) :
    NewSl encSp 2 (marksT t) (fun v => .tuple #[v, .int .i64 (errT t)]) Try.prog 19 [vT A t.length cap] w := by
  unfold NewSl vT
  have h1 := fun W (h : Below w.heap.size w W) => (track_any t A cap W (ht.below h) hf (by omega)).gv
  unfold vT at h1
  (refine ret_enter (n := 9) Try.func19 rfl rfl rfl ?_)
  cases hv : valid t
  · rw [marksT_no hv, errT_no hv]
    simp only [hv] at h1
    (repeat' (first | ((with_reducible refine isOps ?_); first | refine u_assign rfl rfl rfl rfl rfl ?_ | (refine x_load rfl rfl rfl rfl rfl ?_; refine ⟨_, rfl, ?_⟩) | refine u_gives rfl rfl rfl rfl rfl rfl (fun _ _ q => h1 _ q.below) ?_ | refine u_not rfl rfl rfl rfl rfl ?_ | (refine u_box rfl rfl rfl rfl rfl rfl (fun b => ?_))) | (with_reducible first | refine u_seq ?_ | refine u_region ?_ | refine u_nil ?_ | refine u_then_n ?_ | refine u_ret ?_ | refine u_then_r ?_) | ((with_reducible refine u_cond_t ?_ ?_); (· exact rfl))))
    exact u_done (by (exact ResL.cons (by exact Res1.tmp rfl) (ResL.cons (by exact Res1.tmp rfl) ResL.nil))) (none, 0) trivial rfl (fun _ h => sl_nil h)
  · rw [marksT_yes hv, errT_yes hv]
    simp only [hv] at h1
    have h2 := fun W (h : Below w.heap.size w W) => rmarks_n t A cap W (ht.below h) (valid_okay hv) hl
    unfold vT at h2
    (repeat' (first | ((with_reducible refine isOps ?_); first | refine u_assign rfl rfl rfl rfl rfl ?_ | (refine x_load rfl rfl rfl rfl rfl ?_; refine ⟨_, rfl, ?_⟩) | refine u_gives rfl rfl rfl rfl rfl rfl (fun _ _ q => h1 _ q.below) ?_ | refine u_newsl rfl rfl rfl rfl rfl rfl (fun _ _ q => h2 _ q.below) (fun A' c' => ?_) | refine u_not rfl rfl rfl rfl rfl ?_ | (refine u_box rfl rfl rfl rfl rfl rfl (fun b => ?_))) | (with_reducible first | refine u_seq ?_ | refine u_region ?_ | refine u_nil ?_ | refine u_then_n ?_ | refine u_ret ?_ | refine u_skip ?_) | ((with_reducible refine u_cond_f ?_ ?_); (· exact rfl))))
    exact u_done (by (exact ResL.cons (by exact Res1.tmp rfl) (ResL.cons (by exact Res1.tmp rfl) ResL.nil))) (A', c') trivial rfl (fun _ h => h.sub (by (repeat (first | exact Out.nil _ | (refine Out.cons (by (repeat (first | exact Take.here _ _ | apply Take.there))) ?_)))))
end Go.Proofs.Ytekjkaoibcfgfaa
