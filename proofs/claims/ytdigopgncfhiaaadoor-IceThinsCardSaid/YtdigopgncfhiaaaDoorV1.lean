/- Small functions of the laws: span, inside. -/
import Derived.Test.YtdigopgncfhiaaaDoorTy
import Derived.Test.YtdigopgncfhiaaaDoorEqs
import Derived.Test.YtdigopgncfhiaaaDoorBase
namespace Go.Proofs.YtdigopgncfhiaaaDoor
set_option linter.unusedVariables false
set_option linter.unusedSimpArgs false
open Go.RowKit
set_option maxRecDepth 20000

theorem in1 (lo hi a : Int) (c : Nat) (A : Option Addr) (w : World) (hk : SlAt encI 1 w A [a]) : Gv Tryd.prog 99 [.int .i64 lo, .int .i64 hi, .slice A 1 c] w (.bool (inB lo hi a)) :=
  ((in_all lo hi [a] c A w (by simp) hk).of (by simp)).gv
theorem in2 (lo hi a b : Int) (c : Nat) (A : Option Addr) (w : World) (hk : SlAt encI 1 w A [a, b]) : Gv Tryd.prog 99 [.int .i64 lo, .int .i64 hi, .slice A 2 c] w (.bool (inB lo hi a && inB lo hi b)) :=
  ((in_all lo hi [a, b] c A w (by simp) hk).of (by simp)).gv
instance : EncI encI 1 := ⟨fun _ => rfl, fun _ => one_i⟩

end Go.Proofs.YtdigopgncfhiaaaDoor
/- sum. -/
namespace Go.Proofs.YtdigopgncfhiaaaDoor
set_option linter.unusedVariables false
set_option linter.unusedSimpArgs false
open Go.RowKit
set_option maxRecDepth 20000

instance : EncI encSt 9 := ⟨fun _ => rfl, one_st⟩
instance : EncI encMe 5 := ⟨fun _ => rfl, one_me⟩
instance : ElI Tryd.prog 33 3 1 8 := ⟨⟨_, elem_i⟩⟩
instance : ElI Tryd.prog 170 28 2 16 := ⟨⟨_, elem_sp⟩⟩
instance : EncI encSp 2 := ⟨fun _ => rfl, fun _ => one_sp⟩
def sumI : List Int → Int
  | [] => 0
  | x :: r => x + sumI r
theorem sumI_append (a b : List Int) : sumI (a ++ b) = sumI a + sumI b := by
  induction a with
  | nil => simp [sumI]
  | cons x r ih => simp [sumI, ih]; omega
theorem sumI_take {l : List Int} {i : Nat} (h : i < l.length) : sumI (l.take (i + 1)) = sumI (l.take i) + l[i] := by
  rw [List.take_succ_eq_append_getElem h, sumI_append]; simp [sumI]
theorem sumI_bd {l : List Int} {B : Int} (h : ∀ x ∈ l, 0 ≤ x ∧ x ≤ B) : 0 ≤ sumI l ∧ sumI l ≤ l.length * B := by
  induction l with
  | nil => simp [sumI]
  | cons x r ih =>
    have h1 := h x (by simp)
    have h2 := ih (fun y hy => h y (by simp [hy]))
    simp only [sumI, List.length_cons, Int.natCast_add, Int.natCast_one]
    rw [Int.add_mul]
    omega

end Go.Proofs.YtdigopgncfhiaaaDoor
/- pick, of whatever elements. -/
namespace Go.Proofs.YtdigopgncfhiaaaDoor
set_option linter.unusedVariables false
open Go.RowKit
set_option maxRecDepth 20000
set_option linter.unusedSimpArgs false


set_option maxHeartbeats 2000000 in
theorem pickSp (l : List Sp) (A : Option Addr) (cap : Nat) (kf : FuncId) [CallI Tryd.prog kf] (cs : Array Value) (p : Nat → Sp → Bool) (w : World) (hk : SlAt encSp 2 w A l) (hl : l.length ≤ 100000)
    (hp : ∀ (i : Nat) x W, l[i]? = some x → Below w.heap.size w W → Gv Tryd.prog kf ([.int .i64 (i : Int), vSp x] ++ cs.toList) W (.bool (p i x))) :
    NewSl encI 1 (picks p l) (fun v => v) Tryd.prog 100 [.slice A l.length cap, .func (.func kf) #[] cs] w := by
  unfold NewSl
  (refine ret_enter (n := 25) Tryd.func100 rfl rfl rfl ?_)
  (repeat' (first | ((with_reducible refine isOps ?_); first | refine u_move rfl rfl rfl rfl rfl ?_ | refine u_assign rfl rfl rfl rfl rfl ?_ | refine u_len rfl rfl rfl rfl rfl ?_) | (with_reducible first | refine u_seq ?_ | refine u_region ?_ | refine u_nil ?_ | refine u_then_n ?_ | refine u_block ?_)))
  refine u_row_nil encI 1 3 ?_
  refine u_loop (ι := Nat × Value) (fun i => i.1 ≤ l.length) (fun i => [(1, .func (.func kf) #[] cs), (5, i.2), (8, .slice A l.length cap), (9, .int .i64 (l.length : Int)), (10, .int .i64 (i.1 : Int))]) (fun i => [.row encI 1 3 i.2 (picksTo p l i.1)]) (fun i => l.length - i.1) (0, .slice none 0 0) (Nat.zero_le _) (by (first | exact fun _ _ h => lk_nil h | (repeat (first | exact (fun _ _ h => lk_nil h) | (refine lk_sub rfl ?_))))) (by (repeat (first | exact Out.nil _ | (refine Out.cons (by (repeat (first | exact Take.here _ _ | apply Take.there))) ?_)))) ?_
  rintro ⟨i, v⟩ hi
  simp only at hi ⊢
  have hpl := picksTo_len p l i
  by_cases hlt : i < l.length
  · have hx : l[i]? = some l[i] := by simp [hlt]
    obtain ⟨b, o, rfl, hblt, hc⟩ := hk.at_ hlt
    have : InS w b o encSp 2 l := ⟨hk⟩
    have : GetI l i l[i] := ⟨hx⟩
    have hso : soAt p l i = p i l[i] := by simp [soAt, hlt]
    (repeat' (first | ((with_reducible refine isOps ?_); first | refine u_move rfl rfl rfl rfl rfl ?_ | refine u_assign rfl rfl rfl rfl rfl ?_ | (refine x_load rfl rfl rfl rfl rfl ?_; refine ⟨_, rfl, ?_⟩) | (refine u_cmp rfl rfl rfl rfl rfl rfl rfl (fun h => ?_) (fun h => ?_) <;> (dsimp only [cmpP] at h; (try (exfalso; omega)))) | (refine u_givesB rfl rfl rfl rfl rfl rfl (fun _ _ q => hp i _ _ hx q.below) (fun h => ?_) (fun h => ?_) <;> (try (exfalso; omega))) | (refine u_append (enc := encI) [_] rfl rfl rfl rfl rfl (by (repeat (first | exact Take.here _ _ | apply Take.there))) rfl rfl (src_one (by exact rfl)) (by refine ⟨?_, by decide⟩; (try simp only [List.length_append, List.length_cons, List.length_nil]); omega) (fun A' c' => ?_)) | refine u_add1 rfl rfl rfl rfl rfl rfl (by omega) ?_ | refine u_index rfl rfl rfl rfl rfl rfl rfl (by omega) ?_ | (refine x_store rfl rfl rfl rfl rfl ?_; refine And.intro rfl (And.intro (by first | decide | exact Nat.le_of_ble_eq_true rfl | (simp; omega)) ⟨_, rfl, ?_⟩)) | (refine u_alloc rfl rfl rfl rfl (fun b => ?_)) | (refine x_buildSlice rfl rfl rfl rfl rfl ?_; refine ⟨rfl, _, rfl, fun b => ?_⟩)) | (with_reducible first | refine u_seq ?_ | refine u_region ?_ | refine u_nil ?_ | refine u_then_n ?_ | refine u_skip ?_ | refine u_block ?_ | refine u_in_n ?_) | ((with_reducible refine u_cond_t ?_ ?_); (· exact rfl)) | ((with_reducible refine u_cond_f ?_ ?_); (· exact rfl))))
    · refine u_again (i + 1, .slice A' (picksTo p l i ++ [(i : Int)]).length c') (by simp only; omega) (by simp only; omega) (by (first | exact fun _ _ h => lk_nil h | (repeat (first | exact (fun _ _ h => lk_nil h) | (refine lk_sub rfl ?_))))) ?_
      rw [picksTo_yes (hso.trans h)]
      (repeat (first | exact Out.nil _ | (refine Out.cons (by (repeat (first | exact Take.here _ _ | apply Take.there))) ?_)))
    · refine u_again (i + 1, v) (by simp only; omega) (by simp only; omega) (by (first | exact fun _ _ h => lk_nil h | (repeat (first | exact (fun _ _ h => lk_nil h) | (refine lk_sub rfl ?_))))) ?_
      rw [picksTo_no (hso.trans h)]
      (repeat (first | exact Out.nil _ | (refine Out.cons (by (repeat (first | exact Take.here _ _ | apply Take.there))) ?_)))
  · obtain rfl : i = l.length := by omega
    (repeat' (first | ((with_reducible refine isOps ?_); first | refine u_move rfl rfl rfl rfl rfl ?_ | refine u_assign rfl rfl rfl rfl rfl ?_ | (refine u_cmp rfl rfl rfl rfl rfl rfl rfl (fun h => ?_) (fun h => ?_) <;> (dsimp only [cmpP] at h; (try (exfalso; omega))))) | (with_reducible first | refine u_seq ?_ | refine u_region ?_ | refine u_nil ?_ | refine u_then_n ?_ | refine u_ret ?_ | refine u_exit ?_ | refine u_in_same ?_ | refine u_then_e ?_) | ((with_reducible refine u_cond_f ?_ ?_); (· exact rfl))))
    refine u_row_form (enc := encI) (by (repeat (first | exact Take.here _ _ | apply Take.there))) ?_
    rintro A' c' rfl
    exact u_done (by (exact ResL.cons (by exact Res1.tmp rfl) ResL.nil)) (A', c') trivial rfl (fun _ h => (h.row_sl (by (repeat (first | exact Take.here _ _ | apply Take.there)))).sub (by (repeat (first | exact Out.nil _ | (refine Out.cons (by (repeat (first | exact Take.here _ _ | apply Take.there))) ?_)))))

end Go.Proofs.YtdigopgncfhiaaaDoor
