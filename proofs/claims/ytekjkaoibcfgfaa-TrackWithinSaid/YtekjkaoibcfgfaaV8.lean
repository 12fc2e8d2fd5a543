/- Which stretches may be the steepest ones. -/
import Derived.Test.YtekjkaoibcfgfaaV5
namespace Go.Proofs.Ytekjkaoibcfgfaa
set_option linter.unusedVariables false
open Go.RowKit
set_option maxRecDepth 20000
set_option linter.unusedSimpArgs false


set_option maxHeartbeats 2000000 in
theorem pickSt (l : List St) (A : Option Addr) (cap : Nat) (kf : FuncId) [CallI Try.prog kf] (cs : Array Value) (p : Nat → St → Bool) (w : World) (hk : SlAt encSt 9 w A l) (hl : l.length ≤ 100000)
    (hp : ∀ (i : Nat) x W, l[i]? = some x → Below w.heap.size w W → Gv Try.prog kf ([.int .i64 (i : Int), vSt x] ++ cs.toList) W (.bool (p i x))) :
    NewSl encI 1 (picks p l) (fun v => v) Try.prog 66 [.slice A l.length cap, .func (.func kf) #[] cs] w := by
  unfold NewSl
  (refine ret_enter (n := 25) Try.func66 rfl rfl rfl ?_)
  (repeat' (first | ((with_reducible refine isOps ?_); first | refine u_move rfl rfl rfl rfl rfl ?_ | refine u_assign rfl rfl rfl rfl rfl ?_ | refine u_len rfl rfl rfl rfl rfl ?_) | (with_reducible first | refine u_seq ?_ | refine u_region ?_ | refine u_nil ?_ | refine u_then_n ?_ | refine u_block ?_)))
  refine u_row_nil encI 1 3 ?_
  refine u_loop (ι := Nat × Value) (fun i => i.1 ≤ l.length) (fun i => [(1, .func (.func kf) #[] cs), (5, i.2), (8, .slice A l.length cap), (9, .int .i64 (l.length : Int)), (10, .int .i64 (i.1 : Int))]) (fun i => [.row encI 1 3 i.2 (picksTo p l i.1)]) (fun i => l.length - i.1) (0, .slice none 0 0) (Nat.zero_le _) (by (first | exact fun _ _ h => lk_nil h | (repeat (first | exact (fun _ _ h => lk_nil h) | (refine lk_sub rfl ?_))))) (by (repeat (first | exact Out.nil _ | (refine Out.cons (by (repeat (first | exact Take.here _ _ | apply Take.there))) ?_)))) ?_
  rintro ⟨i, v⟩ hi
  simp only at hi ⊢
  have hpl := picksTo_len p l i
  by_cases hlt : i < l.length
  · have hx : l[i]? = some l[i] := by simp [hlt]
    obtain ⟨b, o, rfl, hblt, hc⟩ := hk.at_ hlt
    have : InS w b o encSt 9 l := ⟨hk⟩
    have : GetI l i l[i] := ⟨hx⟩
    have hso : soAt p l i = p i l[i] := by simp [soAt, hlt]
    (repeat' (first | ((with_reducible refine isOps ?_); first | refine u_move rfl rfl rfl rfl rfl ?_ | refine u_assign rfl rfl rfl rfl rfl ?_ | (refine x_load rfl rfl rfl rfl rfl ?_; refine ⟨_, rfl, ?_⟩) | (refine u_cmp rfl rfl rfl rfl rfl rfl rfl (fun h => ?_) (fun h => ?_) <;> (dsimp only [cmpP] at h; (try (exfalso; omega)))) | (refine u_givesB rfl rfl rfl rfl rfl rfl (fun _ _ q => hp i _ _ hx q.below) (fun h => ?_) (fun h => ?_) <;> (try (exfalso; omega))) | (refine u_append (enc := encI) [_] rfl rfl rfl rfl rfl (by (repeat (first | exact Take.here _ _ | apply Take.there))) rfl rfl (src_one (by exact rfl)) (by refine ⟨?_, by decide⟩; (try simp only [List.length_append, List.length_cons, List.length_nil]); omega) (fun A' c' => ?_)) | refine u_add1 rfl rfl rfl rfl rfl rfl (by omega) ?_ | refine u_index rfl rfl rfl rfl rfl rfl rfl (by omega) ?_ | (refine x_store rfl rfl rfl rfl rfl ?_; refine And.intro rfl (And.intro (by first | decide | exact Nat.le_of_ble_eq_true rfl | (simp; omega)) ⟨_, rfl, ?_⟩)) | (refine u_alloc rfl rfl rfl rfl (fun b => ?_)) | (refine x_buildSlice rfl rfl rfl rfl rfl ?_; refine ⟨rfl, _, rfl, fun b => ?_⟩)) | (with_reducible first | refine u_seq ?_ | refine u_region ?_ | refine u_nil ?_ | refine u_then_n ?_ | refine u_skip ?_ | refine u_block ?_ | refine u_in_n ?_) | ((with_reducible refine u_cond_t ?_ ?_); (· exact rfl)) | ((with_reducible refine u_cond_f ?_ ?_); (· exact rfl))))
    · refine u_again (i + 1, .slice A' (picksTo p l i ++ [(i : Int)]).length c') (by simp only; omega) (by simp only; omega) (by (first | exact fun _ _ h => lk_nil h | (repeat (first | exact (fun _ _ h => lk_nil h) | (refine lk_sub rfl ?_))))) ?_
      rw [picksTo_yes (hso.trans h)]
      (repeat (first | exact Out.nil _ | (refine Out.cons (by (repeat (first | exact Take.here _ _ | apply Take.there))) ?_)))
    · refine u_again (i + 1, v) (by simp only; omega) (by simp only; omega) (by (first | exact fun _ _ h => lk_nil h | (repeat (first | exact (fun _ _ h => lk_nil h) | (refine lk_sub rfl ?_))))) ?_
      rw [picksTo_no (hso.trans h)]
      (repeat (first | exact Out.nil _ | (refine Out.cons (by (repeat (first | exact Take.here _ _ | apply Take.there))) ?_)))
  · obtain rfl : i = l.length := by omega
    (repeat' (first | ((with_reducible refine isOps ?_); first | refine u_move rfl rfl rfl rfl rfl ?_ | refine u_assign rfl rfl rfl rfl rfl ?_ | (refine u_cmp rfl rfl rfl rfl rfl rfl rfl (fun h => ?_) (fun h => ?_) <;> (dsimp only [cmpP] at h; (try (exfalso; omega))))) | (with_reducible first | refine u_seq ?_ | refine u_region ?_ | refine u_nil ?_ | refine u_then_n ?_ | refine u_ret ?_ | refine u_exit ?_ | refine u_in_same ?_ | refine u_then_e ?_) | ((with_reducible refine u_cond_f ?_ ?_); (· exact rfl))))
    refine u_row_form (enc := encI) (by (repeat (first | exact Take.here _ _ | apply Take.there))) ?_
    rintro A' c' rfl
    exact u_done (by (exact ResL.cons (by exact Res1.tmp rfl) ResL.nil)) (A', c') trivial rfl (fun _ h => (h.row_sl (by (repeat (first | exact Take.here _ _ | apply Take.there)))).sub (by (repeat (first | exact Out.nil _ | (refine Out.cons (by (repeat (first | exact Take.here _ _ | apply Take.there))) ?_)))))


theorem mul_bd {a b A B : Int} (h1 : 0 ≤ a) (h2 : a ≤ A) (h3 : 0 ≤ b) (h4 : b ≤ B) : 0 ≤ a * b ∧ a * b ≤ A * B :=
  ⟨Int.mul_nonneg h1 h3, Int.mul_le_mul h2 h4 h3 (Int.le_trans h1 h2)⟩

/-- is the stretch o, at k, surely steeper than s, at i? -/
def lessP (s : St) (i k : Nat) (o : St) : Bool := decide (k ≠ i) && decide (s.fall.hi * o.long.hi < o.fall.lo * s.long.lo)
def steepP (t : List St) (i : Nat) (s : St) : Bool := decide ((picks (lessP s i) t).length = 0)
def steepT (t : List St) : List Int := if valid t then picks (steepP t) t else []

set_option maxHeartbeats 1000000 in
theorem steep11_any (k i : Nat) (o s : St) (b1 b2 : Nat) (w : World) (ho : Okay o) (hs : Okay s) (h1 : InC w b1 0 [.int .i64 (i : Int)]) (h2 : InC w b2 0 (encSt s)) :
    Gv Try.prog 68 [.int .i64 (k : Int), vSt o, .pointer (some ⟨b1, 0, none⟩), .pointer (some ⟨b2, 0, none⟩)] w (.bool (lessP s i k o)) := by
  unfold Gv vSt
  obtain ⟨z1, z2, z3, z4, z5, z6, z7, z8⟩ := ho
  obtain ⟨y1, y2, y3, y4, y5, y6, y7, y8⟩ := hs
  have m1 := mul_bd (a := o.fall.lo) (b := s.long.lo) (A := 5000) (B := 30000) (by omega) (by omega) (by omega) (by omega)
  have m2 := mul_bd (a := s.fall.hi) (b := o.long.hi) (A := 5000) (B := 30000) (by omega) (by omega) (by omega) (by omega)
  (refine ret_enter (n := 27) Try.func68 rfl rfl rfl ?_)
  (repeat' (first | ((with_reducible refine isOps ?_); first | refine u_move rfl rfl rfl rfl rfl ?_ | refine u_assign rfl rfl rfl rfl rfl ?_ | (refine x_load rfl rfl rfl rfl rfl ?_; refine ⟨_, rfl, ?_⟩) | refine u_field rfl rfl rfl rfl rfl ?_ | refine u_pick rfl rfl rfl rfl rfl rfl ?_ | refine u_not_wanted rfl rfl rfl ?_ | (refine u_cmp rfl rfl rfl rfl rfl rfl rfl (fun h => ?_) (fun h => ?_) <;> (dsimp only [cmpP] at h; (try (exfalso; omega)))) | refine u_mul rfl rfl rfl rfl rfl rfl (IntWalk.i64_in _ (by omega)) ?_ | (refine u_box rfl rfl rfl rfl rfl rfl (fun b => ?_))) | (with_reducible first | refine u_seq ?_ | refine u_region ?_ | refine u_nil ?_ | refine u_then_n ?_ | refine u_ret ?_)))
  all_goals exact u_done (by (exact ResL.cons (by exact Res1.tmp rfl) ResL.nil)) () trivial (by simp [resV, lessP]; omega) (fun _ h => h.sub (by (repeat (first | exact Out.nil _ | (refine Out.cons (by (repeat (first | exact Take.here _ _ | apply Take.there))) ?_)))))

set_option maxHeartbeats 1000000 in
theorem steep1_any (t : List St) (A : Option Addr) (cap : Nat) (i : Nat) (s : St) (b : Nat) (w : World) (ht : SlAt encSt 9 w A t) (ho : ∀ s ∈ t, Okay s) (hs : Okay s) (hl : t.length ≤ 1000) (h1 : InC w b 0 [.slice A t.length cap]) :
    Gv Try.prog 67 [.int .i64 (i : Int), vSt s, .pointer (some ⟨b, 0, none⟩)] w (.bool (steepP t i s)) := by
  unfold Gv vSt
  (refine ret_enter (n := 12) Try.func67 rfl rfl rfl ?_)
  (repeat' (first | ((with_reducible refine isOps ?_); first | refine u_assign rfl rfl rfl rfl rfl ?_ | (refine x_load rfl rfl rfl rfl rfl ?_; refine ⟨_, rfl, ?_⟩) | refine u_field rfl rfl rfl rfl rfl ?_ | (refine u_cmp rfl rfl rfl rfl rfl rfl rfl (fun h => ?_) (fun h => ?_) <;> (dsimp only [cmpP] at h; (try (exfalso; omega)))) | refine u_newsl rfl rfl rfl rfl rfl rfl (fun _ _ q => (pickSt t _ _ _ _ (lessP s i) _ (ht.below q.below) (by omega) (fun k o W hx hW => steep11_any k i o s _ _ W (ho o (List.mem_of_getElem? hx)) hs (cells_of q.own hW) (cells_of q.own hW)))) (fun A' c' => ?_) | refine u_len rfl rfl rfl rfl rfl ?_ | (refine u_box rfl rfl rfl rfl rfl rfl (fun b => ?_)) | refine u_makeFunc rfl rfl rfl rfl rfl rfl ?_) | (with_reducible first | refine u_seq ?_ | refine u_region ?_ | refine u_nil ?_ | refine u_then_n ?_ | refine u_ret ?_)))
  all_goals exact u_done (by (exact ResL.cons (by exact Res1.tmp rfl) ResL.nil)) () trivial (by first | exact congrArg Value.bool (decide_eq_true (by omega)) | exact congrArg Value.bool (decide_eq_false (by omega))) (fun _ h => h.sub (by (repeat (first | exact Out.nil _ | (refine Out.cons (by (repeat (first | exact Take.here _ _ | apply Take.there))) ?_)))))

set_option maxHeartbeats 1000000 in
theorem steepest_any (t : List St) (A : Option Addr) (cap : Nat) (w : World) (ht : SlAt encSt 9 w A t) (hf : FitT t) (hl : t.length ≤ 1000) :
    NewSl encI 1 (steepT t) (fun v => .tuple #[v, .int .i64 (errT t)]) Try.prog 29 [vT A t.length cap] w := by
  unfold NewSl vT
  have h1 := fun W (h : Below w.heap.size w W) => check_n t A cap W (ht.below h) hf (by omega)
  (refine ret_enter (n := 14) Try.func29 rfl rfl rfl ?_)
  cases hv : valid t
  · have e1 : steepT t = [] := by simp [steepT, hv]
    rw [errT_no hv] at h1
    rw [e1, errT_no hv]
    (repeat' (first | ((with_reducible refine isOps ?_); first | refine u_move rfl rfl rfl rfl rfl ?_ | refine u_assign rfl rfl rfl rfl rfl ?_ | (refine x_load rfl rfl rfl rfl rfl ?_; refine ⟨_, rfl, ?_⟩) | (refine u_cmp rfl rfl rfl rfl rfl rfl rfl (fun h => ?_) (fun h => ?_) <;> (dsimp only [cmpP] at h; (try (exfalso; omega)))) | refine u_gives rfl rfl rfl rfl rfl rfl (fun _ _ q => h1 _ q.below) ?_ | (refine u_box rfl rfl rfl rfl rfl rfl (fun b => ?_))) | (with_reducible first | refine u_seq ?_ | refine u_region ?_ | refine u_nil ?_ | refine u_then_n ?_ | refine u_ret ?_ | refine u_then_r ?_) | ((with_reducible refine u_cond_t ?_ ?_); (· exact rfl))))
    exact u_done (by (exact ResL.cons (by exact Res1.tmp rfl) (ResL.cons (by exact Res1.tmp rfl) ResL.nil))) (none, 0) trivial rfl (fun _ h => sl_nil h)
  · have e1 : steepT t = picks (steepP t) t := by simp [steepT, hv]
    rw [errT_yes hv] at h1
    rw [e1, errT_yes hv]
    have ho := valid_okay hv
    (repeat' (first | ((with_reducible refine isOps ?_); first | refine u_move rfl rfl rfl rfl rfl ?_ | refine u_assign rfl rfl rfl rfl rfl ?_ | (refine x_load rfl rfl rfl rfl rfl ?_; refine ⟨_, rfl, ?_⟩) | refine u_field rfl rfl rfl rfl rfl ?_ | (refine u_cmp rfl rfl rfl rfl rfl rfl rfl (fun h => ?_) (fun h => ?_) <;> (dsimp only [cmpP] at h; (try (exfalso; omega)))) | refine u_gives rfl rfl rfl rfl rfl rfl (fun _ _ q => h1 _ q.below) ?_ | refine u_newsl rfl rfl rfl rfl rfl rfl (fun _ _ q => (pickSt t _ _ _ _ (steepP t) _ (ht.below q.below) (by omega) (fun k o W hx hW => steep1_any t A cap k o _ W ((ht.below q.below).below hW) ho (ho o (List.mem_of_getElem? hx)) hl (cells_of q.own hW)))) (fun A' c' => ?_) | (refine u_box rfl rfl rfl rfl rfl rfl (fun b => ?_)) | refine u_makeFunc rfl rfl rfl rfl rfl rfl ?_) | (with_reducible first | refine u_seq ?_ | refine u_region ?_ | refine u_nil ?_ | refine u_then_n ?_ | refine u_ret ?_ | refine u_skip ?_) | ((with_reducible refine u_cond_f ?_ ?_); (· exact rfl))))
    exact u_done (by (exact ResL.cons (by exact Res1.tmp rfl) (ResL.cons (by exact Res1.tmp rfl) ResL.nil))) (_, _) trivial rfl (fun _ h => h.sub (by (repeat (first | exact Out.nil _ | (refine Out.cons (by (repeat (first | exact Take.here _ _ | apply Take.there))) ?_)))))

theorem picksTo_le {α : Type} (p : Nat → α → Bool) (l : List α) {j k : Nat} (h : j ≤ k) : (picksTo p l j).length ≤ (picksTo p l k).length := by
  induction h with
  | refl => exact Nat.le_refl _
  | @step m _ ih =>
    refine Nat.le_trans ih ?_
    cases hs : soAt p l m
    · rw [picksTo_no hs]; exact Nat.le_refl _
    · rw [picksTo_yes hs]; simp

set_option maxHeartbeats 4000000 in
theorem rsteepest_any (t : List St) (A : Option Addr) (cap : Nat) (w : World) (ht : SlAt encSt 9 w A t) (hf : FitT t) (hl : t.length ≤ 1000) :
    NewSl encI 1 (steepT t) (fun v => .tuple #[v, .int .i64 (errT t)]) Try.prog 30 [vT A t.length cap] w := by
  unfold NewSl vT
  have h1 := fun W (h : Below w.heap.size w W) => track_n t A cap W (ht.below h) hf (by omega)
  (refine ret_enter (n := 63) Try.func30 rfl rfl rfl ?_)
  cases hv : valid t
  · have e1 : steepT t = [] := by simp [steepT, hv]
    rw [hv] at h1
    rw [e1, errT_no hv]
    (repeat' (first | ((with_reducible refine isOps ?_); first | refine u_assign rfl rfl rfl rfl rfl ?_ | (refine x_load rfl rfl rfl rfl rfl ?_; refine ⟨_, rfl, ?_⟩) | refine u_gives rfl rfl rfl rfl rfl rfl (fun _ _ q => h1 _ q.below) ?_ | refine u_not rfl rfl rfl rfl rfl ?_ | (refine u_box rfl rfl rfl rfl rfl rfl (fun b => ?_))) | (with_reducible first | refine u_seq ?_ | refine u_region ?_ | refine u_nil ?_ | refine u_then_n ?_ | refine u_ret ?_ | refine u_then_r ?_) | ((with_reducible refine u_cond_t ?_ ?_); (· exact rfl))))
    exact u_done (by (exact ResL.cons (by exact Res1.tmp rfl) (ResL.cons (by exact Res1.tmp rfl) ResL.nil))) (none, 0) trivial rfl (fun _ h => sl_nil h)
  · have e1 : steepT t = picks (steepP t) t := by simp [steepT, hv]
    rw [hv] at h1
    rw [e1, errT_yes hv]
    have ho := valid_okay hv
    (repeat' (first | ((with_reducible refine isOps ?_); first | refine u_assign rfl rfl rfl rfl rfl ?_ | (refine x_load rfl rfl rfl rfl rfl ?_; refine ⟨_, rfl, ?_⟩) | refine u_gives rfl rfl rfl rfl rfl rfl (fun _ _ q => h1 _ q.below) ?_ | refine u_not rfl rfl rfl rfl rfl ?_ | (refine u_box rfl rfl rfl rfl rfl rfl (fun b => ?_))) | (with_reducible first | refine u_seq ?_ | refine u_region ?_ | refine u_nil ?_ | refine u_then_n ?_ | refine u_skip ?_ | refine u_block ?_) | ((with_reducible refine u_cond_f ?_ ?_); (· exact rfl))))
    refine u_row_nil encI 1 3 ?_
    refine u_loop (ι := Nat × Value) (fun i => i.1 ≤ t.length) (fun i => [(1, .pointer (some ⟨b, 0, none⟩)), (4, i.2), (5, .int .i64 (i.1 : Int))]) (fun i => [.row encI 1 3 i.2 (picksTo (steepP t) t i.1), .blk b [.slice A t.length cap]]) (fun i => t.length - i.1) (0, .slice none 0 0) (Nat.zero_le _) (by (first | exact fun _ _ h => lk_nil h | (repeat (first | exact (fun _ _ h => lk_nil h) | (refine lk_sub rfl ?_))))) (by (repeat (first | exact Out.nil _ | (refine Out.cons (by (repeat (first | exact Take.here _ _ | apply Take.there))) ?_)))) ?_
    rintro ⟨i, v⟩ hi
    simp only at hi ⊢
    have hpl := picksTo_len (steepP t) t i
    by_cases hlt : i < t.length
    · obtain ⟨bb, o, rfl, hblt, hc⟩ := ht.at_ hlt
      have : InS w bb o encSt 9 t := ⟨ht⟩
      have : GetI t i t[i] := ⟨by simp [hlt]⟩
      have hso : soAt (steepP t) t i = steepP t i t[i] := by simp [soAt, hlt]
      obtain ⟨y1, y2, y3, y4, y5, y6, y7, y8⟩ := ho t[i] (List.getElem_mem hlt)
      generalize hs : t[i] = s at *
      obtain ⟨b0, hb0⟩ : ∃ b0, b0 = b := ⟨b, rfl⟩
      subst hb0
      (repeat' (first | ((with_reducible refine isOps ?_); first | refine u_move rfl rfl rfl rfl rfl ?_ | refine u_assign rfl rfl rfl rfl rfl ?_ | (refine x_load rfl rfl rfl rfl rfl ?_; refine ⟨_, rfl, ?_⟩) | refine u_field rfl rfl rfl rfl rfl ?_ | (refine u_cmp rfl rfl rfl rfl rfl rfl rfl (fun h => ?_) (fun h => ?_) <;> (dsimp only [cmpP] at h; (try (exfalso; omega)))) | refine u_index rfl rfl rfl rfl rfl rfl rfl (by omega) ?_ | refine u_len rfl rfl rfl rfl rfl ?_ | (refine x_store rfl rfl rfl rfl rfl ?_; refine And.intro rfl (And.intro (by first | decide | exact Nat.le_of_ble_eq_true rfl | (simp; omega)) ⟨_, rfl, ?_⟩)) | (refine u_alloc rfl rfl rfl rfl (fun b => ?_))) | (with_reducible first | refine u_seq ?_ | refine u_region ?_ | refine u_nil ?_ | refine u_then_n ?_ | refine u_skip ?_ | refine u_block ?_) | ((with_reducible refine u_cond_t ?_ ?_); (· exact rfl))))
      refine u_loop (ι := Nat) (fun k => k ≤ t.length) (fun k => [(1, .pointer (some ⟨b0, 0, none⟩)), (4, v), (5, .int .i64 (i : Int)), (6, .pointer (some ⟨b, 0, none⟩)), (7, .bool (decide ((picksTo (lessP s i) t k).length = 0))), (8, .int .i64 (k : Int))]) (fun _ => [.blk b (encSt s), .row encI 1 3 v (picksTo (steepP t) t i), .blk b0 [.slice (some ⟨bb, o, none⟩) t.length cap]]) (fun k => t.length - k) 0 (Nat.zero_le _) (by (first | exact fun _ _ h => lk_nil h | (repeat (first | exact (fun _ _ h => lk_nil h) | (refine lk_sub rfl ?_))))) (by (repeat (first | exact Out.nil _ | (refine Out.cons (by (repeat (first | exact Take.here _ _ | apply Take.there))) ?_)))) ?_
      intro k hk
      by_cases hlk : k < t.length
      · have : GetI t k t[k] := ⟨by simp [hlk]⟩
        have hsk : soAt (lessP s i) t k = lessP s i k t[k] := by simp [soAt, hlk]
        obtain ⟨z1, z2, z3, z4, z5, z6, z7, z8⟩ := ho t[k] (List.getElem_mem hlk)
        generalize t[k] = q at *
        have m1 := mul_bd (a := q.fall.lo) (b := s.long.lo) (A := 5000) (B := 30000) (by omega) (by omega) (by omega) (by omega)
        have m2 := mul_bd (a := s.fall.hi) (b := q.long.hi) (A := 5000) (B := 30000) (by omega) (by omega) (by omega) (by omega)
        (repeat' (first | ((with_reducible refine isOps ?_); first | refine u_move rfl rfl rfl rfl rfl ?_ | refine u_assign rfl rfl rfl rfl rfl ?_ | (refine x_load rfl rfl rfl rfl rfl ?_; refine ⟨_, rfl, ?_⟩) | refine u_field rfl rfl rfl rfl rfl ?_ | refine u_pick rfl rfl rfl rfl rfl rfl ?_ | refine u_not_wanted rfl rfl rfl ?_ | (refine u_cmp rfl rfl rfl rfl rfl rfl rfl (fun h => ?_) (fun h => ?_) <;> (dsimp only [cmpP] at h; (try (exfalso; omega)))) | refine u_add1 rfl rfl rfl rfl rfl rfl (by omega) ?_ | refine u_mul rfl rfl rfl rfl rfl rfl (IntWalk.i64_in _ (by omega)) ?_ | refine u_index rfl rfl rfl rfl rfl rfl rfl (by omega) ?_ | refine u_len rfl rfl rfl rfl rfl ?_ | (refine x_store rfl rfl rfl rfl rfl ?_; refine And.intro rfl (And.intro (by first | decide | exact Nat.le_of_ble_eq_true rfl | (simp; omega)) ⟨_, rfl, ?_⟩)) | (refine u_alloc rfl rfl rfl rfl (fun b => ?_))) | (with_reducible first | refine u_seq ?_ | refine u_region ?_ | refine u_nil ?_ | refine u_then_n ?_ | refine u_skip ?_ | refine u_block ?_ | refine u_in_n ?_) | ((with_reducible refine u_cond_t ?_ ?_); (· exact rfl)) | ((with_reducible refine u_cond_f ?_ ?_); (· exact rfl))))
        all_goals first
          | (have e : lessP s i k q = true := by simp [lessP]; omega
             have e2 : decide ((picksTo (lessP s i) t (k + 1)).length = 0) = false := by rw [picksTo_yes (hsk.trans e)]; simp
             exact u_again (k + 1) (by omega) (by omega) (by rw [e2]; (first | exact fun _ _ h => lk_nil h | (repeat (first | exact (fun _ _ h => lk_nil h) | (refine lk_sub rfl ?_))))) (by (repeat (first | exact Out.nil _ | (refine Out.cons (by (repeat (first | exact Take.here _ _ | apply Take.there))) ?_)))))
          | (have e : lessP s i k q = false := by simp [lessP]; omega
             exact u_again (k + 1) (by omega) (by omega) (by rw [picksTo_no (hsk.trans e)]; (first | exact fun _ _ h => lk_nil h | (repeat (first | exact (fun _ _ h => lk_nil h) | (refine lk_sub rfl ?_))))) (by (repeat (first | exact Out.nil _ | (refine Out.cons (by (repeat (first | exact Take.here _ _ | apply Take.there))) ?_)))))
      · obtain rfl : k = t.length := by omega
        have e3 : decide ((picksTo (lessP s i) t t.length).length = 0) = steepP t i s := rfl
        rw [e3]
        cases hst : steepP t i s
        · (repeat' (first | ((with_reducible refine isOps ?_); first | refine u_move rfl rfl rfl rfl rfl ?_ | refine u_assign rfl rfl rfl rfl rfl ?_ | (refine x_load rfl rfl rfl rfl rfl ?_; refine ⟨_, rfl, ?_⟩) | refine u_field rfl rfl rfl rfl rfl ?_ | (refine u_cmp rfl rfl rfl rfl rfl rfl rfl (fun h => ?_) (fun h => ?_) <;> (dsimp only [cmpP] at h; (try (exfalso; omega)))) | refine u_add1 rfl rfl rfl rfl rfl rfl (by omega) ?_ | refine u_len rfl rfl rfl rfl rfl ?_) | (with_reducible first | refine u_seq ?_ | refine u_region ?_ | refine u_nil ?_ | refine u_then_n ?_ | refine u_skip ?_ | refine u_exit ?_ | refine u_in_n ?_ | refine u_in_same ?_ | refine u_then_e ?_) | ((with_reducible refine u_cond_f ?_ ?_); (· exact rfl))))
          refine u_again (i + 1, v) (by simp only; omega) (by simp only; omega) (by (first | exact fun _ _ h => lk_nil h | (repeat (first | exact (fun _ _ h => lk_nil h) | (refine lk_sub rfl ?_))))) ?_
          rw [picksTo_no (hso.trans hst)]
          (repeat (first | exact Out.nil _ | (refine Out.cons (by (repeat (first | exact Take.here _ _ | apply Take.there))) ?_)))
        · (repeat' (first | ((with_reducible refine isOps ?_); first | refine u_move rfl rfl rfl rfl rfl ?_ | refine u_assign rfl rfl rfl rfl rfl ?_ | (refine x_load rfl rfl rfl rfl rfl ?_; refine ⟨_, rfl, ?_⟩) | refine u_field rfl rfl rfl rfl rfl ?_ | (refine u_cmp rfl rfl rfl rfl rfl rfl rfl (fun h => ?_) (fun h => ?_) <;> (dsimp only [cmpP] at h; (try (exfalso; omega)))) | (refine u_append (enc := encI) [_] rfl rfl rfl rfl rfl (by (repeat (first | exact Take.here _ _ | apply Take.there))) rfl rfl (src_one (by exact rfl)) (by refine ⟨?_, by decide⟩; (try simp only [List.length_append, List.length_cons, List.length_nil]); omega) (fun A' c' => ?_)) | refine u_add1 rfl rfl rfl rfl rfl rfl (by omega) ?_ | refine u_len rfl rfl rfl rfl rfl ?_ | (refine x_buildSlice rfl rfl rfl rfl rfl ?_; refine ⟨rfl, _, rfl, fun b => ?_⟩)) | (with_reducible first | refine u_seq ?_ | refine u_region ?_ | refine u_nil ?_ | refine u_then_n ?_ | refine u_exit ?_ | refine u_in_n ?_ | refine u_in_same ?_ | refine u_then_e ?_) | ((with_reducible refine u_cond_t ?_ ?_); (· exact rfl)) | ((with_reducible refine u_cond_f ?_ ?_); (· exact rfl))))
          refine u_again (i + 1, .slice A' (picksTo (steepP t) t i ++ [(i : Int)]).length c') (by simp only; omega) (by simp only; omega) (by (first | exact fun _ _ h => lk_nil h | (repeat (first | exact (fun _ _ h => lk_nil h) | (refine lk_sub rfl ?_))))) ?_
          rw [picksTo_yes (hso.trans hst)]
          (repeat (first | exact Out.nil _ | (refine Out.cons (by (repeat (first | exact Take.here _ _ | apply Take.there))) ?_)))
    · obtain rfl : i = t.length := by omega
      (repeat' (first | ((with_reducible refine isOps ?_); first | refine u_move rfl rfl rfl rfl rfl ?_ | refine u_assign rfl rfl rfl rfl rfl ?_ | (refine x_load rfl rfl rfl rfl rfl ?_; refine ⟨_, rfl, ?_⟩) | refine u_field rfl rfl rfl rfl rfl ?_ | (refine u_cmp rfl rfl rfl rfl rfl rfl rfl (fun h => ?_) (fun h => ?_) <;> (dsimp only [cmpP] at h; (try (exfalso; omega)))) | refine u_len rfl rfl rfl rfl rfl ?_) | (with_reducible first | refine u_seq ?_ | refine u_region ?_ | refine u_nil ?_ | refine u_then_n ?_ | refine u_ret ?_ | refine u_exit ?_ | refine u_in_same ?_ | refine u_then_e ?_) | ((with_reducible refine u_cond_f ?_ ?_); (· exact rfl))))
      refine u_row_form (enc := encI) (by (repeat (first | exact Take.here _ _ | apply Take.there))) ?_
      rintro A2 c2 rfl
      exact u_done (by (exact ResL.cons (by exact Res1.tmp rfl) (ResL.cons (by exact Res1.tmp rfl) ResL.nil))) (A2, c2) trivial rfl (fun _ h => (h.row_sl (by (repeat (first | exact Take.here _ _ | apply Take.there)))).sub (by (repeat (first | exact Out.nil _ | (refine Out.cons (by (repeat (first | exact Take.here _ _ | apply Take.there))) ?_)))))
end Go.Proofs.Ytekjkaoibcfgfaa
