/- The reference's marks; where a place may be. -/
import Derived.Test.YtdigopgncfhiaaaDoorA6
import Derived.Test.YtdigopgncfhiaaaDoorA23
import Derived.Test.YtdigopgncfhiaaaDoorA24
namespace Go.Proofs.YtdigopgncfhiaaaDoor
set_option linter.unusedVariables false
open Go.RowKit
set_option maxRecDepth 20000
set_option linter.unusedSimpArgs false
theorem newSl_of {α : Type} {enc : α → List Value} {k : Nat} {xs : List α} {V : Value → Value} {f : FuncId} {args : List Value} {w : World} (h : Does f args.toArray w fun u w' => ∃ v, u = V v ∧ Gets w.heap.size enc k w' v xs) : NewSl enc k xs V Tryd.prog f args w := by
  unfold NewSl
  refine Ret.of (Calls.mono h ?_)
  rintro e w' ⟨u, rfl, hb, v, rfl, A, c, rfl, hs, hbd⟩
  refine ⟨(A, c), trivial, rfl, hb, ?_, ?_, by simp⟩
  · intro e he
    simp only [List.mem_singleton] at he
    subst he
    exact hs
  · intro e he b hb'
    simp only [List.mem_singleton] at he
    subst he
    obtain ⟨o, hA⟩ := hb'
    exact hbd b o hA
theorem marks_len (t : List St) : (marks t).length = t.length + 1 := by simp [marks]
theorem marks_take (t : List St) {i : Nat} (h : i ≤ t.length) : (List.range (i + 1)).map (mark t) = (List.range i).map (mark t) ++ [mark t i] := by
  simp [List.range_succ]
set_option maxHeartbeats 1000000 in
theorem rmarks_n (t : List St) (A : Option Addr) (cap : Nat) (w : World) (ht : SlAt encSt 9 w A t) (ho : ∀ s ∈ t, Okay s) (hl : t.length ≤ 1000) :
    NewSl encSp 2 (marks t) (fun v => v) Tryd.prog 104 [vT A t.length cap] w := by
  unfold NewSl vT
  (refine ret_enter (n := 25) Tryd.func104 rfl rfl rfl ?_)
  (repeat' (first | ((with_reducible refine isOps ?_); first | refine u_assign rfl rfl rfl rfl rfl ?_ | (refine u_box rfl rfl rfl rfl rfl rfl (fun b => ?_))) | (with_reducible first | refine u_seq ?_ | refine u_region ?_ | refine u_nil ?_ | refine u_then_n ?_ | refine u_block ?_)))
  refine u_row_nil encSp 2 28 ?_
  refine u_loop (ι := Nat × Value) (fun i => i.1 ≤ t.length + 1) (fun i => [(1, .pointer (some ⟨b, 0, none⟩)), (3, i.2), (4, .int .i64 (i.1 : Int))]) (fun i => [.row encSp 2 28 i.2 ((List.range i.1).map (mark t)), .blk b [.slice A t.length cap]]) (fun i => t.length + 1 - i.1) (0, .slice none 0 0) (Nat.zero_le _) (by (first | exact fun _ _ h => lk_nil h | (repeat (first | exact (fun _ _ h => lk_nil h) | (refine lk_sub rfl ?_))))) (by (repeat (first | exact Out.nil _ | (refine Out.cons (by (repeat (first | exact Take.here _ _ | apply Take.there))) ?_)))) ?_
  rintro ⟨i, v⟩ hi
  simp only at hi ⊢
  have hrl : ((List.range i).map (mark t)).length = i := by simp
  by_cases hlt : i ≤ t.length
  · have hc := fun W (h : Below w.heap.size w W) => (rdrop_any t A cap 0 i W (ht.below h) ho (Nat.zero_le _) hlt hl).gv
    unfold vT at hc
    (repeat' (first | ((with_reducible refine isOps ?_); first | refine u_move rfl rfl rfl rfl rfl ?_ | refine u_assign rfl rfl rfl rfl rfl ?_ | (refine x_load rfl rfl rfl rfl rfl ?_; refine ⟨_, rfl, ?_⟩) | refine u_field rfl rfl rfl rfl rfl ?_ | (refine u_cmp rfl rfl rfl rfl rfl rfl rfl (fun h => ?_) (fun h => ?_) <;> (dsimp only [cmpP] at h; (try (exfalso; omega)))) | refine u_gives rfl rfl rfl rfl rfl rfl (fun _ _ q => hc _ q.below) ?_ | (refine u_append (enc := encSp) [_] rfl rfl rfl rfl rfl (by (repeat (first | exact Take.here _ _ | apply Take.there))) rfl rfl (src_one (by exact rfl)) (by refine ⟨?_, by decide⟩; (try simp only [List.length_append, List.length_cons, List.length_nil]); omega) (fun A' c' => ?_)) | refine u_extract rfl rfl rfl rfl rfl rfl ?_ | refine u_add1 rfl rfl rfl rfl rfl rfl (by omega) ?_ | refine u_len rfl rfl rfl rfl rfl ?_ | (refine x_store rfl rfl rfl rfl rfl ?_; refine And.intro rfl (And.intro (by first | decide | exact Nat.le_of_ble_eq_true rfl | (simp; omega)) ⟨_, rfl, ?_⟩)) | (refine u_alloc rfl rfl rfl rfl (fun b => ?_)) | (refine x_buildSlice rfl rfl rfl rfl rfl ?_; refine ⟨rfl, _, rfl, fun b => ?_⟩)) | (with_reducible first | refine u_seq ?_ | refine u_region ?_ | refine u_nil ?_ | refine u_then_n ?_ | refine u_skip ?_ | refine u_block ?_ | refine u_in_n ?_) | ((with_reducible refine u_cond_t ?_ ?_); (· exact rfl))))
    refine u_again (i + 1, .slice A' ((List.range i).map (mark t) ++ [mark t i]).length c') (by simp only; omega) (by simp only; omega) (by (first | exact fun _ _ h => lk_nil h | (repeat (first | exact (fun _ _ h => lk_nil h) | (refine lk_sub rfl ?_))))) ?_
    rw [marks_take t hlt]
    (repeat (first | exact Out.nil _ | (refine Out.cons (by (repeat (first | exact Take.here _ _ | apply Take.there))) ?_)))
  · obtain rfl : i = t.length + 1 := by omega
    (repeat' (first | ((with_reducible refine isOps ?_); first | refine u_move rfl rfl rfl rfl rfl ?_ | refine u_assign rfl rfl rfl rfl rfl ?_ | (refine x_load rfl rfl rfl rfl rfl ?_; refine ⟨_, rfl, ?_⟩) | refine u_field rfl rfl rfl rfl rfl ?_ | (refine u_cmp rfl rfl rfl rfl rfl rfl rfl (fun h => ?_) (fun h => ?_) <;> (dsimp only [cmpP] at h; (try (exfalso; omega)))) | refine u_len rfl rfl rfl rfl rfl ?_) | (with_reducible first | refine u_seq ?_ | refine u_region ?_ | refine u_nil ?_ | refine u_then_n ?_ | refine u_ret ?_ | refine u_exit ?_ | refine u_in_same ?_ | refine u_then_e ?_) | ((with_reducible refine u_cond_f ?_ ?_); (· exact rfl))))
    refine u_row_form (enc := encSp) (by (repeat (first | exact Take.here _ _ | apply Take.there))) ?_
    rintro A' c' rfl
    exact u_done (by (exact ResL.cons (by exact Res1.tmp rfl) ResL.nil)) (A', c') trivial (by simp [marks, resV]) (fun _ h => (h.row_sl (by (repeat (first | exact Take.here _ _ | apply Take.there)))).sub (by (repeat (first | exact Out.nil _ | (refine Out.cons (by (repeat (first | exact Take.here _ _ | apply Take.there))) ?_)))))
theorem marksT_yes {t : List St} (h : valid t = true) : marksT t = marks t := by simp [marksT, h]
theorem marksT_no {t : List St} (h : valid t = false) : marksT t = [] := by simp [marksT, h]
end Go.Proofs.YtdigopgncfhiaaaDoor
/- Where a place may be. -/
namespace Go.Proofs.YtdigopgncfhiaaaDoor
set_option linter.unusedVariables false
open Go.RowKit
set_option maxRecDepth 20000
set_option linter.unusedSimpArgs false
def placeP (m : List Sp) (a : Int) (i : Nat) (x : Sp) : Bool := decide (x.lo ≤ a) && (decide (i + 1 = m.length) || (match m[i + 1]? with | some y => decide (a < y.hi) | none => false))
theorem InC.one {w : World} {b : Nat} {v : Value} (h : w.cell? ⟨b, 0, none⟩ = some v) : InC w b 0 [v] := ⟨fun j u hj => by
  match j, hj with
  | 0, hj => simp at hj; subst hj; exact h⟩
set_option maxHeartbeats 1000000 in
theorem place1_any (m : List Sp) (A : Option Addr) (cap : Nat) (a : Int) (i : Nat) (x : Sp) (b1 b2 : Nat) (w : World) (hk : SlAt encSp 2 w A m) (hi : i < m.length) (hl : m.length ≤ 1001)
    (h1 : w.cell? ⟨b1, 0, none⟩ = some (.int .i64 a)) (h2 : w.cell? ⟨b2, 0, none⟩ = some (.slice A m.length cap)) :
    Gv Tryd.prog 101 [.int .i64 (i : Int), vSp x, .pointer (some ⟨b1, 0, none⟩), .pointer (some ⟨b2, 0, none⟩)] w (.bool (placeP m a i x)) := by
  unfold Gv vSp
  have i1 := InC.one h1
  have i2 := InC.one h2
  (refine ret_enter (n := 28) Tryd.func101 rfl rfl rfl ?_)
  by_cases hn : i + 1 < m.length
  · obtain ⟨b, o, rfl, hblt, hc⟩ := hk.at_ hn
    have : InS w b o encSp 2 m := ⟨hk⟩
    have : GetI m (i + 1) m[i + 1] := ⟨by simp [hn]⟩
    have hp : placeP m a i x = (decide (x.lo ≤ a) && decide (a < m[i + 1].hi)) := by
      have h9 : decide (i + 1 = m.length) = false := by simp; omega
      simp [placeP, hn, h9]
    rw [hp]
    (repeat' (first | ((with_reducible refine isOps ?_); first | refine u_assign rfl rfl rfl rfl rfl ?_ | (refine u_box rfl rfl rfl rfl rfl rfl (fun b => ?_))) | (with_reducible first | refine u_seq ?_ | refine u_region ?_ | refine u_nil ?_ | refine u_then_n ?_)))
    (refine u_chain (by kernel_rfl) [[], [true], [false, false], [true, true, true], [true, true, true, true], [true, true, true, true, true], [true, true, true, true, true, true], [false, false, true, true, true, true, true], [true, false, false, true, true, true, true, true], [true, true, true, true, true, true, true, true, true], [true, true, true, true, true, true, true, true, true, true], [true, true, true, true, true, true, true, true, true, true, true], [false, true, true, true, true, true, true, true, true, true, true, true], [false, false, true, true, true, true, true, true, true, true, true, true, true], [true, false, false, true, true, true, true, true, true, true, true, true, true, true], [true, true, true, false, true, true, true, true, true, true, true, true, true, true, true], [true, true, true, true, false, true, true, true, true, true, true, true, true, true, true, true], [true, true, true, true, true, false, true, true, true, true, true, true, true, true, true, true, true], [true, true, true, true, true, true, true, true, true, true, true, true, true, true, true, true, true, true], [true, true, true, true, true, true, true, true, true, true, true, true, true, true, true, true, true, true, true], [true, true, true, true, true, true, true, true, true, true, true, true, true, true, true, true, true, true, true, true], [true, true, true, true, true, true, true, true, true, true, true, true, true, true, true, true, true, true, true, true, true]] (by kernel_rfl) (by kernel_rfl) (by kernel_rfl) ?_)
    (repeat' (first | (((with_reducible refine c_go ?_ ?_); (· exact rfl); refine ⟨_, fun G => (by (try simp only [fltT, entsT, List.nil_append, List.cons_append]); rfl), ?_⟩); first | refine c_val _ (fun _ => e_move rfl rfl) (fun _ => rfl) rfl (by first | exact fun _ _ _ => rfl | (intro G G' h; simp (decide := true) only [h])) ?_ | refine c_val _ (fun _ => e_load' rfl rfl (by exact rfl)) (fun _ => rfl) rfl (by first | exact fun _ _ _ => rfl | (intro G G' h; simp (decide := true) only [h])) ?_ | (refine c_isField rfl ?_; refine c_val _ (fun _ => e_field rfl rfl) (fun _ => rfl) rfl (by first | exact fun _ _ _ => rfl | (intro G G' h; simp (decide := true) only [h])) ?_) | refine c_val _ (fun _ => e_pick rfl rfl rfl) (fun _ => rfl) rfl (by first | exact fun _ _ _ => rfl | (intro G G' h; simp (decide := true) only [h])) ?_ | refine c_val _ (fun _ => e_assign rfl rfl) (fun _ => rfl) rfl (by first | exact fun _ _ _ => rfl | (intro G G' h; simp (decide := true) only [h])) ?_ | refine c_not_wanted (fun _ => rfl) rfl ?_ | (refine c_cmp rfl rfl (fun _ => rfl) rfl (fun _ => rfl) (fun _ => rfl) (fun h => ?_) (fun h => ?_) <;> (dsimp only [cmpP] at h; (try (exfalso; omega)))) | refine c_val _ (fun _ => e_add1 rfl rfl rfl (by omega)) (fun _ => rfl) rfl (by first | exact fun _ _ _ => rfl | (intro G G' h; simp (decide := true) only [h])) ?_ | refine c_val _ (fun _ => e_index rfl rfl rfl rfl (by omega)) (fun _ => rfl) rfl (by first | exact fun _ _ _ => rfl | (intro G G' h; simp (decide := true) only [h])) ?_ | refine c_val _ (fun _ => e_len rfl rfl) (fun _ => rfl) rfl (by first | exact fun _ _ _ => rfl | (intro G G' h; simp (decide := true) only [h])) ?_) | (with_reducible refine c_nil ?_)))
    all_goals
      (intro G; simp only [regsT, entsT, Pend.at_none, List.nil_append, List.cons_append])
      (repeat' (first | (with_reducible first | refine u_then_n ?_ | refine u_ret ?_)))
      exact u_done (by (exact ResL.cons (by exact Res1.tmp rfl) ResL.nil)) () trivial (by simp [resV, *]) (fun _ h => h.sub (by (repeat (first | exact Out.nil _ | (refine Out.cons (by (repeat (first | exact Take.here _ _ | apply Take.there))) ?_)))))
  · have hp : placeP m a i x = decide (x.lo ≤ a) := by simp [placeP]; intro _; left; omega
    rw [hp]
    (repeat' (first | ((with_reducible refine isOps ?_); first | refine u_assign rfl rfl rfl rfl rfl ?_ | (refine u_box rfl rfl rfl rfl rfl rfl (fun b => ?_))) | (with_reducible first | refine u_seq ?_ | refine u_region ?_ | refine u_nil ?_ | refine u_then_n ?_)))
    (refine u_chain (by kernel_rfl) [[], [true], [false, false], [true, true, true], [true, true, true, true], [true, true, true, true, true], [true, true, true, true, true, true], [false, false, true, true, true, true, true], [true, false, false, true, true, true, true, true], [true, true, true, true, true, true, true, true, true], [true, true, true, true, true, true, true, true, true, true], [true, true, true, true, true, true, true, true, true, true, true], [false, true, true, true, true, true, true, true, true, true, true, true], [false, false, true, true, true, true, true, true, true, true, true, true, true], [true, false, false, true, true, true, true, true, true, true, true, true, true, true], [true, true, true, false, true, true, true, true, true, true, true, true, true, true, true], [true, true, true, true, false, true, true, true, true, true, true, true, true, true, true, true], [true, true, true, true, true, false, true, true, true, true, true, true, true, true, true, true, true], [true, true, true, true, true, true, true, true, true, true, true, true, true, true, true, true, true, true], [true, true, true, true, true, true, true, true, true, true, true, true, true, true, true, true, true, true, true], [true, true, true, true, true, true, true, true, true, true, true, true, true, true, true, true, true, true, true, true], [true, true, true, true, true, true, true, true, true, true, true, true, true, true, true, true, true, true, true, true, true]] (by kernel_rfl) (by kernel_rfl) (by kernel_rfl) ?_)
    (repeat' (first | (((with_reducible refine c_go ?_ ?_); (· exact rfl); refine ⟨_, fun G => (by (try simp only [fltT, entsT, List.nil_append, List.cons_append]); rfl), ?_⟩); first | refine c_val _ (fun _ => e_move rfl rfl) (fun _ => rfl) rfl (by first | exact fun _ _ _ => rfl | (intro G G' h; simp (decide := true) only [h])) ?_ | refine c_val _ (fun _ => e_load' rfl rfl (by exact rfl)) (fun _ => rfl) rfl (by first | exact fun _ _ _ => rfl | (intro G G' h; simp (decide := true) only [h])) ?_ | (refine c_isField rfl ?_; refine c_val _ (fun _ => e_field rfl rfl) (fun _ => rfl) rfl (by first | exact fun _ _ _ => rfl | (intro G G' h; simp (decide := true) only [h])) ?_) | refine c_val _ (fun _ => e_pick rfl rfl rfl) (fun _ => rfl) rfl (by first | exact fun _ _ _ => rfl | (intro G G' h; simp (decide := true) only [h])) ?_ | refine c_val _ (fun _ => e_assign rfl rfl) (fun _ => rfl) rfl (by first | exact fun _ _ _ => rfl | (intro G G' h; simp (decide := true) only [h])) ?_ | refine c_not_wanted (fun _ => rfl) rfl ?_ | (refine c_cmp rfl rfl (fun _ => rfl) rfl (fun _ => rfl) (fun _ => rfl) (fun h => ?_) (fun h => ?_) <;> (dsimp only [cmpP] at h; (try (exfalso; omega)))) | refine c_val _ (fun _ => e_add1 rfl rfl rfl (by omega)) (fun _ => rfl) rfl (by first | exact fun _ _ _ => rfl | (intro G G' h; simp (decide := true) only [h])) ?_ | refine c_val _ (fun _ => e_len rfl rfl) (fun _ => rfl) rfl (by first | exact fun _ _ _ => rfl | (intro G G' h; simp (decide := true) only [h])) ?_) | (with_reducible refine c_nil ?_)))
    all_goals
      (intro G; simp only [regsT, entsT, Pend.at_none, List.nil_append, List.cons_append])
      (repeat' (first | (with_reducible first | refine u_then_n ?_ | refine u_ret ?_)))
      exact u_done (by (exact ResL.cons (by exact Res1.tmp rfl) ResL.nil)) () trivial (by simp [resV, *]) (fun _ h => h.sub (by (repeat (first | exact Out.nil _ | (refine Out.cons (by (repeat (first | exact Take.here _ _ | apply Take.there))) ?_)))))
end Go.Proofs.YtdigopgncfhiaaaDoor
/- Where a place may be: the program and the reference. -/
namespace Go.Proofs.YtdigopgncfhiaaaDoor
set_option linter.unusedVariables false
open Go.RowKit
set_option maxRecDepth 20000
set_option linter.unusedSimpArgs false
def placeT (t : List St) (a : Int) : List Int := if valid t && inB 0 360000 a then picks (placeP (marks t) a) (marks t) else []
def errP (t : List St) (a : Int) : Int := if valid t then (if inB 0 360000 a then 0 else 2) else 10
set_option maxHeartbeats 1000000 in
theorem place_any (t : List St) (A : Option Addr) (cap : Nat) (a : Int) (w : World) (ht : SlAt encSt 9 w A t) (hf : FitT t) (hl : t.length ≤ 1000) :
    NewSl encI 1 (placeT t a) (fun v => .tuple #[v, .int .i64 (errP t a)]) Tryd.prog 54 [vT A t.length cap, .int .i64 a] w := by
  unfold NewSl vT
  have h1 := fun W (h : Below w.heap.size w W) => newSl_of (args := [vT A t.length cap]) (marks_any t A cap W (ht.below h) hf (by omega))
  unfold vT at h1
  (refine ret_enter (n := 23) Tryd.func54 rfl rfl rfl ?_)
  cases hv : valid t
  · have e1 : placeT t a = [] := by simp [placeT, hv]
    have e2 : errP t a = 10 := by simp [errP, hv]
    rw [e1, e2]
    rw [marksT_no hv, errT_no hv] at h1
    (repeat' (first | ((with_reducible refine isOps ?_); first | refine u_move rfl rfl rfl rfl rfl ?_ | refine u_assign rfl rfl rfl rfl rfl ?_ | (refine x_load rfl rfl rfl rfl rfl ?_; refine ⟨_, rfl, ?_⟩) | (refine u_cmp rfl rfl rfl rfl rfl rfl rfl (fun h => ?_) (fun h => ?_) <;> (dsimp only [cmpP] at h; (try (exfalso; omega)))) | refine u_newsl rfl rfl rfl rfl rfl rfl (fun _ _ q => h1 _ q.below) (fun A' c' => ?_) | refine u_extract rfl rfl rfl rfl rfl rfl ?_ | (refine x_store rfl rfl rfl rfl rfl ?_; refine And.intro rfl (And.intro (by first | decide | exact Nat.le_of_ble_eq_true rfl | (simp; omega)) ⟨_, rfl, ?_⟩)) | (refine u_alloc rfl rfl rfl rfl (fun b => ?_)) | (refine u_box rfl rfl rfl rfl rfl rfl (fun b => ?_))) | (with_reducible first | refine u_seq ?_ | refine u_region ?_ | refine u_nil ?_ | refine u_then_n ?_ | refine u_ret ?_ | refine u_then_r ?_) | ((with_reducible refine u_cond_t ?_ ?_); (· exact rfl))))
    exact u_done (by (exact ResL.cons (by exact Res1.tmp rfl) (ResL.cons (by exact Res1.tmp rfl) ResL.nil))) (none, 0) trivial rfl (fun _ h => sl_nil h)
  · rw [marksT_yes hv, errT_yes hv] at h1
    have hml := marks_len t
    (repeat' (first | ((with_reducible refine isOps ?_); first | refine u_move rfl rfl rfl rfl rfl ?_ | refine u_assign rfl rfl rfl rfl rfl ?_ | (refine x_load rfl rfl rfl rfl rfl ?_; refine ⟨_, rfl, ?_⟩) | (refine u_cmp rfl rfl rfl rfl rfl rfl rfl (fun h => ?_) (fun h => ?_) <;> (dsimp only [cmpP] at h; (try (exfalso; omega)))) | refine u_newsl rfl rfl rfl rfl rfl rfl (fun _ _ q => h1 _ q.below) (fun A' c' => ?_) | (refine u_givesB rfl rfl rfl rfl rfl rfl (fun _ _ q => in1 _ _ _ _ _ _ (src_one (enc := encI) (by exact rfl) _ q.below q.own)) (fun h => ?_) (fun h => ?_) <;> (simp only [inB_iff, inB_no] at h; (try (exfalso; omega)))) | refine u_newsl rfl rfl rfl rfl rfl rfl (fun _ _ q => (pickSp (marks t) _ _ _ _ (placeP (marks t) a) _ (sl_at q.own (Below.refl _ _)) (by omega) (fun i x W hx hW => place1_any (marks t) _ _ a i x _ _ W (sl_at q.own hW) (List.getElem?_eq_some_iff.1 hx).1 (by omega) (cell_of q.own hW rfl) (cell_of q.own hW rfl)))) (fun A' c' => ?_) | refine u_extract rfl rfl rfl rfl rfl rfl ?_ | refine u_not rfl rfl rfl rfl rfl ?_ | (refine x_store rfl rfl rfl rfl rfl ?_; refine And.intro rfl (And.intro (by first | decide | exact Nat.le_of_ble_eq_true rfl | (simp; omega)) ⟨_, rfl, ?_⟩)) | (refine u_alloc rfl rfl rfl rfl (fun b => ?_)) | (refine u_box rfl rfl rfl rfl rfl rfl (fun b => ?_)) | (refine x_buildSlice rfl rfl rfl rfl rfl ?_; refine ⟨rfl, _, rfl, fun b => ?_⟩) | refine u_makeFunc rfl rfl rfl rfl rfl rfl ?_) | (with_reducible first | refine u_seq ?_ | refine u_region ?_ | refine u_nil ?_ | refine u_then_n ?_ | refine u_ret ?_ | refine u_skip ?_ | refine u_then_r ?_) | ((with_reducible refine u_cond_t ?_ ?_); (· exact rfl)) | ((with_reducible refine u_cond_f ?_ ?_); (· exact rfl))))
    · have hi := inB_iff.2 h
      have e1 : placeT t a = picks (placeP (marks t) a) (marks t) := by simp [placeT, hv, hi]
      have e2 : errP t a = 0 := by simp [errP, hv, hi]
      rw [e1, e2]
      exact u_done (by (exact ResL.cons (by exact Res1.tmp rfl) (ResL.cons (by exact Res1.tmp rfl) ResL.nil))) (_, _) trivial rfl (fun _ h => h.sub (by (repeat (first | exact Out.nil _ | (refine Out.cons (by (repeat (first | exact Take.here _ _ | apply Take.there))) ?_)))))
    · have hi := inB_no.2 h
      have e1 : placeT t a = [] := by simp [placeT, hi]
      have e2 : errP t a = 2 := by simp [errP, hv, hi]
      rw [e1, e2]
      exact u_done (by (exact ResL.cons (by exact Res1.tmp rfl) (ResL.cons (by exact Res1.tmp rfl) ResL.nil))) (none, 0) trivial rfl (fun _ h => sl_nil h)
set_option maxHeartbeats 2000000 in
theorem rplace_any (t : List St) (A : Option Addr) (cap : Nat) (a : Int) (w : World) (ht : SlAt encSt 9 w A t) (hf : FitT t) (hl : t.length ≤ 1000) :
    NewSl encI 1 (placeT t a) (fun v => .tuple #[v, .int .i64 (errP t a)]) Tryd.prog 59 [vT A t.length cap, .int .i64 a] w := by
  unfold NewSl vT
  have h1 := fun W (h : Below w.heap.size w W) => (track_any t A cap W (ht.below h) hf (by omega)).gv
  unfold vT at h1
  (refine ret_enter (n := 52) Tryd.func59 rfl rfl rfl ?_)
  cases hv : valid t
  · have e1 : placeT t a = [] := by simp [placeT, hv]
    have e2 : errP t a = 10 := by simp [errP, hv]
    rw [e1, e2]
    simp only [hv] at h1
    (repeat' (first | ((with_reducible refine isOps ?_); first | refine u_assign rfl rfl rfl rfl rfl ?_ | (refine x_load rfl rfl rfl rfl rfl ?_; refine ⟨_, rfl, ?_⟩) | refine u_gives rfl rfl rfl rfl rfl rfl (fun _ _ q => h1 _ q.below) ?_ | refine u_not rfl rfl rfl rfl rfl ?_ | (refine u_box rfl rfl rfl rfl rfl rfl (fun b => ?_))) | (with_reducible first | refine u_seq ?_ | refine u_region ?_ | refine u_nil ?_ | refine u_then_n ?_ | refine u_ret ?_ | refine u_then_r ?_) | ((with_reducible refine u_cond_t ?_ ?_); (· exact rfl))))
    exact u_done (by (exact ResL.cons (by exact Res1.tmp rfl) (ResL.cons (by exact Res1.tmp rfl) ResL.nil))) (none, 0) trivial rfl (fun _ h => sl_nil h)
  · simp only [hv] at h1
    have h2 := fun W (h : Below w.heap.size w W) => rmarks_n t A cap W (ht.below h) (valid_okay hv) hl
    unfold vT at h2
    have hml := marks_len t
    (repeat' (first | ((with_reducible refine isOps ?_); first | refine u_move rfl rfl rfl rfl rfl ?_ | refine u_assign rfl rfl rfl rfl rfl ?_ | (refine x_load rfl rfl rfl rfl rfl ?_; refine ⟨_, rfl, ?_⟩) | refine u_gives rfl rfl rfl rfl rfl rfl (fun _ _ q => h1 _ q.below) ?_ | (refine u_givesB rfl rfl rfl rfl rfl rfl (fun _ _ _ => (within_any _ _ _ _).gv) (fun h => ?_) (fun h => ?_) <;> ((try simp only [inB_iff, inB_no, knownB_iff, knownB_no] at h); (try (exfalso; omega)))) | refine u_newsl rfl rfl rfl rfl rfl rfl (fun _ _ q => h2 _ q.below) (fun A' c' => ?_) | refine u_not rfl rfl rfl rfl rfl ?_ | (refine u_box rfl rfl rfl rfl rfl rfl (fun b => ?_))) | (with_reducible first | refine u_seq ?_ | refine u_region ?_ | refine u_nil ?_ | refine u_then_n ?_ | refine u_ret ?_ | refine u_skip ?_ | refine u_then_r ?_ | refine u_block ?_) | ((with_reducible refine u_cond_t ?_ ?_); (· exact rfl)) | ((with_reducible refine u_cond_f ?_ ?_); (· exact rfl))))
    · have hi := inB_iff.2 h
      have e1 : placeT t a = picks (placeP (marks t) a) (marks t) := by simp [placeT, hv, hi]
      have e2 : errP t a = 0 := by simp [errP, hv, hi]
      rw [e1, e2]
      generalize marks t = m at hml ⊢
      refine u_row_nil encI 1 3 ?_
      refine u_loop (ι := Nat × Value) (fun i => i.1 ≤ m.length) (fun i => [(1, .int .i64 a), (6, .slice A' m.length c'), (7, i.2), (8, .int .i64 (i.1 : Int))]) (fun i => [.row encI 1 3 i.2 (picksTo (placeP m a) m i.1), .sl encSp 2 A' m]) (fun i => m.length - i.1) (0, .slice none 0 0) (Nat.zero_le _) (by (first | exact fun _ _ h => lk_nil h | (repeat (first | exact (fun _ _ h => lk_nil h) | (refine lk_sub rfl ?_))))) (by (repeat (first | exact Out.nil _ | (refine Out.cons (by (repeat (first | exact Take.here _ _ | apply Take.there))) ?_)))) ?_
      rintro ⟨i, v⟩ hi
      simp only at hi ⊢
      have hpl := picksTo_len (placeP m a) m i
      by_cases hlt : i < m.length
      · refine u_sl_some (by (repeat (first | exact Take.here _ _ | apply Take.there))) (by omega) ?_
        rintro b off rfl
        have : GetI m i m[i] := ⟨by simp [hlt]⟩
        have hso : soAt (placeP m a) m i = placeP m a i m[i] := by simp [soAt, hlt]
        by_cases hn : i + 1 < m.length
        · have : GetI m (i + 1) m[i + 1] := ⟨by simp [hn]⟩
          have h9 : decide (i + 1 = m.length) = false := by simp; omega
          have hp : placeP m a i m[i] = (decide (m[i].lo ≤ a) && decide (a < m[i + 1].hi)) := by simp [placeP, hn, h9]
          rw [hp] at hso
          (repeat' (first | ((with_reducible refine isOps ?_); first | refine u_move rfl rfl rfl rfl rfl ?_ | refine u_assign rfl rfl rfl rfl rfl ?_ | (refine x_load rfl rfl rfl rfl rfl ?_; refine ⟨_, rfl, ?_⟩) | refine u_field rfl rfl rfl rfl rfl ?_ | refine u_pick rfl rfl rfl rfl rfl rfl ?_ | refine u_not_wanted rfl rfl rfl ?_ | (refine u_cmp rfl rfl rfl rfl rfl rfl rfl (fun h => ?_) (fun h => ?_) <;> (dsimp only [cmpP] at h; (try (exfalso; omega)))) | (refine u_append (enc := encI) [_] rfl rfl rfl rfl rfl (by (repeat (first | exact Take.here _ _ | apply Take.there))) rfl rfl (src_one (by exact rfl)) (by refine ⟨?_, by decide⟩; (try simp only [List.length_append, List.length_cons, List.length_nil]); omega) (fun A' c' => ?_)) | refine u_add1 rfl rfl rfl rfl rfl rfl (by omega) ?_ | refine u_sub rfl rfl rfl rfl rfl rfl (IntWalk.i64_in _ (by omega)) ?_ | refine u_index rfl rfl rfl rfl rfl rfl rfl (by omega) ?_ | refine u_len rfl rfl rfl rfl rfl ?_ | (refine x_buildSlice rfl rfl rfl rfl rfl ?_; refine ⟨rfl, _, rfl, fun b => ?_⟩)) | (with_reducible first | refine u_seq ?_ | refine u_region ?_ | refine u_nil ?_ | refine u_then_n ?_ | refine u_skip ?_ | refine u_block ?_ | refine u_in_n ?_) | ((with_reducible refine u_cond_t ?_ ?_); (· exact rfl)) | ((with_reducible refine u_cond_f ?_ ?_); (· exact rfl))))
          all_goals first
            | (refine u_again (i + 1, .slice _ (picksTo (placeP m a) m i ++ [(i : Int)]).length _) (by simp only; omega) (by simp only; omega) (by (first | exact fun _ _ h => lk_nil h | (repeat (first | exact (fun _ _ h => lk_nil h) | (refine lk_sub rfl ?_))))) ?_
               rw [picksTo_yes (by rw [hso]; simp [*])]
               (repeat (first | exact Out.nil _ | (refine Out.cons (by (repeat (first | exact Take.here _ _ | apply Take.there))) ?_))))
            | (refine u_again (i + 1, v) (by simp only; omega) (by simp only; omega) (by (first | exact fun _ _ h => lk_nil h | (repeat (first | exact (fun _ _ h => lk_nil h) | (refine lk_sub rfl ?_))))) ?_
               rw [picksTo_no (by rw [hso]; simp; omega)]
               (repeat (first | exact Out.nil _ | (refine Out.cons (by (repeat (first | exact Take.here _ _ | apply Take.there))) ?_))))
        · have hp : placeP m a i m[i] = decide (m[i].lo ≤ a) := by simp [placeP]; intro _; left; omega
          rw [hp] at hso
          (repeat' (first | ((with_reducible refine isOps ?_); first | refine u_move rfl rfl rfl rfl rfl ?_ | refine u_assign rfl rfl rfl rfl rfl ?_ | (refine x_load rfl rfl rfl rfl rfl ?_; refine ⟨_, rfl, ?_⟩) | refine u_field rfl rfl rfl rfl rfl ?_ | refine u_pick rfl rfl rfl rfl rfl rfl ?_ | refine u_not_wanted rfl rfl rfl ?_ | (refine u_cmp rfl rfl rfl rfl rfl rfl rfl (fun h => ?_) (fun h => ?_) <;> (dsimp only [cmpP] at h; (try (exfalso; omega)))) | (refine u_append (enc := encI) [_] rfl rfl rfl rfl rfl (by (repeat (first | exact Take.here _ _ | apply Take.there))) rfl rfl (src_one (by exact rfl)) (by refine ⟨?_, by decide⟩; (try simp only [List.length_append, List.length_cons, List.length_nil]); omega) (fun A' c' => ?_)) | refine u_add1 rfl rfl rfl rfl rfl rfl (by omega) ?_ | refine u_sub rfl rfl rfl rfl rfl rfl (IntWalk.i64_in _ (by omega)) ?_ | refine u_index rfl rfl rfl rfl rfl rfl rfl (by omega) ?_ | refine u_len rfl rfl rfl rfl rfl ?_ | (refine x_buildSlice rfl rfl rfl rfl rfl ?_; refine ⟨rfl, _, rfl, fun b => ?_⟩)) | (with_reducible first | refine u_seq ?_ | refine u_region ?_ | refine u_nil ?_ | refine u_then_n ?_ | refine u_skip ?_ | refine u_block ?_ | refine u_in_n ?_) | ((with_reducible refine u_cond_t ?_ ?_); (· exact rfl)) | ((with_reducible refine u_cond_f ?_ ?_); (· exact rfl))))
          all_goals first
            | (refine u_again (i + 1, .slice _ (picksTo (placeP m a) m i ++ [(i : Int)]).length _) (by simp only; omega) (by simp only; omega) (by (first | exact fun _ _ h => lk_nil h | (repeat (first | exact (fun _ _ h => lk_nil h) | (refine lk_sub rfl ?_))))) ?_
               rw [picksTo_yes (by rw [hso]; simp [*])]
               (repeat (first | exact Out.nil _ | (refine Out.cons (by (repeat (first | exact Take.here _ _ | apply Take.there))) ?_))))
            | (refine u_again (i + 1, v) (by simp only; omega) (by simp only; omega) (by (first | exact fun _ _ h => lk_nil h | (repeat (first | exact (fun _ _ h => lk_nil h) | (refine lk_sub rfl ?_))))) ?_
               rw [picksTo_no (by rw [hso]; simp; omega)]
               (repeat (first | exact Out.nil _ | (refine Out.cons (by (repeat (first | exact Take.here _ _ | apply Take.there))) ?_))))
      · obtain rfl : i = m.length := by omega
        (repeat' (first | ((with_reducible refine isOps ?_); first | refine u_move rfl rfl rfl rfl rfl ?_ | refine u_assign rfl rfl rfl rfl rfl ?_ | (refine u_cmp rfl rfl rfl rfl rfl rfl rfl (fun h => ?_) (fun h => ?_) <;> (dsimp only [cmpP] at h; (try (exfalso; omega)))) | refine u_len rfl rfl rfl rfl rfl ?_) | (with_reducible first | refine u_seq ?_ | refine u_region ?_ | refine u_nil ?_ | refine u_then_n ?_ | refine u_ret ?_ | refine u_exit ?_ | refine u_in_same ?_ | refine u_then_e ?_) | ((with_reducible refine u_cond_f ?_ ?_); (· exact rfl))))
        refine u_row_form (enc := encI) (by (repeat (first | exact Take.here _ _ | apply Take.there))) ?_
        rintro A2 c2 rfl
        exact u_done (by (exact ResL.cons (by exact Res1.tmp rfl) (ResL.cons (by exact Res1.tmp rfl) ResL.nil))) (A2, c2) trivial rfl (fun _ h => (h.row_sl (by (repeat (first | exact Take.here _ _ | apply Take.there)))).sub (by (repeat (first | exact Out.nil _ | (refine Out.cons (by (repeat (first | exact Take.here _ _ | apply Take.there))) ?_)))))
    · have hi := inB_no.2 h
      have e1 : placeT t a = [] := by simp [placeT, hi]
      have e2 : errP t a = 2 := by simp [errP, hv, hi]
      rw [e1, e2]
      exact u_done (by (exact ResL.cons (by exact Res1.tmp rfl) (ResL.cons (by exact Res1.tmp rfl) ResL.nil))) (none, 0) trivial rfl (fun _ h => sl_nil h)
end Go.Proofs.YtdigopgncfhiaaaDoor
