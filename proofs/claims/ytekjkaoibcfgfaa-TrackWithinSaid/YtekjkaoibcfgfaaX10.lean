/- left: what measures leave. -/
import Derived.Test.YtekjkaoibcfgfaaX10a
import Derived.Test.YtekjkaoibcfgfaaX10b
namespace Go.Proofs.Ytekjkaoibcfgfaa
open Go.RowKit
set_option maxRecDepth 20000
set_option linter.unusedSimpArgs false
set_option linter.unusedVariables false

set_option maxHeartbeats 4000000 in
theorem left_any (t : List St) (A : Option Addr) (cap : Nat) (kb : KB) (ms : List Me) (m : Nat) (w : World) (ht : SlAt encSt 9 w A t) (hv : valid t = true) (hok : ∀ x ∈ ms, meOk t.length x = true) (hkb : kb.ok ms.length) (hm : w.heap[m]? = some (.map (entsMe kb ms) kb.c)) :
    NewSl encSt 9 (leftT t ms) (fun v => .tuple #[.agg #[v], .bool (leftB t ms)]) Try.prog 75 [.agg #[.slice A t.length cap], .map (some m)] w := by
  unfold NewSl
  have ho := valid_okay hv
  have hlen := valid_len hv
  (refine ret_enter (n := 164) Try.func75 rfl rfl rfl ?_)
  (repeat' (first | ((with_reducible refine isOps ?_); first | refine u_assign rfl rfl rfl rfl rfl ?_ | (refine x_load rfl rfl rfl rfl rfl ?_; refine ⟨_, rfl, ?_⟩) | refine u_field rfl rfl rfl rfl rfl ?_ | (refine u_call rfl rfl rfl rfl rfl rfl (fun _ _ q => clone_any t A cap _ (ht.below q.below) (by omega) (by omega)) ?_; rintro ⟨A', c'⟩ -; dsimp only [List.cons_append, List.nil_append]; refine u_row_arr (Take.here _ _) (by omega) ?_; rintro g rfl) | refine u_gives rfl rfl rfl rfl rfl rfl (fun _ _ q => kinds_any _) ?_ | refine u_add1 rfl rfl rfl rfl rfl rfl (by omega) ?_ | refine u_len rfl rfl rfl rfl rfl ?_ | (refine x_store rfl rfl rfl rfl rfl ?_; refine And.intro rfl (And.intro (by first | decide | exact Nat.le_of_ble_eq_true rfl | (simp; omega)) ⟨_, rfl, ?_⟩)) | (refine u_alloc rfl rfl rfl rfl (fun b => ?_)) | (refine u_box rfl rfl rfl rfl rfl rfl (fun b => ?_)) | (refine x_build rfl rfl rfl rfl rfl ?_; refine ⟨_, rfl, ?_⟩)) | (with_reducible first | refine u_seq ?_ | refine u_region ?_ | refine u_nil ?_ | refine u_then_n ?_ | refine u_block ?_)))
  rename_i b2 b4 b6
  obtain ⟨b8, hb8⟩ : ∃ x, x = b := ⟨b, rfl⟩
  subst hb8
  refine u_loop (ι := Nat) (fun K => K = 1 ∨ K = 2 ∧ fine1 t ms ∨ K = 3 ∧ fine1 t ms ∧ fine2 t ms) (fun K => leftR m b4 b6 b8 t.length K) (fun K => leftH b4 b6 b8 g t.length c' (stg t ms K)) (fun K => 3 - K) 1 (.inl rfl) (by (first | exact fun _ _ h => lk_nil h | (repeat (first | exact (fun _ _ h => lk_nil h) | (refine lk_sub rfl ?_))))) (by (repeat (first | exact Out.nil _ | (refine Out.cons (by (repeat (first | exact Take.here _ _ | apply Take.there))) ?_)))) ?_
  rintro K (rfl | ⟨rfl, h1⟩ | ⟨rfl, h1, h2⟩)
  · exact left_k1 t A cap kb ms m w ht hv hok hkb hm b4 b6 b8 g c' _ rfl _ _ (fun hfi a W q => ⟨2, .inr (.inl ⟨rfl, hfi⟩), by decide, q⟩) (fun e1 a W q => (u_done (by (exact ResL.cons (by exact res1c rfl (by exact rfl)) (ResL.cons (by exact Res1.tmp rfl) ResL.nil))) (none, 0) trivial (by rw [e1, show leftT t ms = [] by simp [leftT, e1]]; rfl) (fun _ h => by rw [show leftT t ms = [] by simp [leftT, e1]]; exact sl_nil h) : U w 164 [] _ _ (bodyPost Try.prog Try.f75 _ .ret)) a W q)
  · exact left_k2 t A cap kb ms m w ht hv hok hkb hm b4 b6 b8 g c' _ rfl _ _ (fun hfi a W q => ⟨3, .inr (.inr ⟨rfl, h1, hfi⟩), by decide, q⟩) (fun e1 a W q => (u_done (by (exact ResL.cons (by exact res1c rfl (by exact rfl)) (ResL.cons (by exact Res1.tmp rfl) ResL.nil))) (none, 0) trivial (by rw [e1, show leftT t ms = [] by simp [leftT, e1]]; rfl) (fun _ h => by rw [show leftT t ms = [] by simp [leftT, e1]]; exact sl_nil h) : U w 164 [] _ _ (bodyPost Try.prog Try.f75 _ .ret)) a W q)
  · have e1 : leftB t ms = true := leftB_yes h1 h2
    have e2 : leftT t ms = stage2 t ms := by simp [leftT, e1]
    rw [e1, e2, show stg t ms 3 = stage2 t ms from rfl]
    (repeat' (first | ((with_reducible refine isOps ?_); first | refine u_move rfl rfl rfl rfl rfl ?_ | refine u_assign rfl rfl rfl rfl rfl ?_ | (refine x_load rfl rfl rfl rfl rfl ?_; refine ⟨_, rfl, ?_⟩) | (refine u_cmp rfl rfl rfl rfl rfl rfl rfl (fun h => ?_) (fun h => ?_) <;> (dsimp only [cmpP] at h; (try (exfalso; omega)))) | (refine x_store rfl rfl rfl rfl rfl ?_; refine And.intro rfl (And.intro (by first | decide | exact Nat.le_of_ble_eq_true rfl | (simp; omega)) ⟨_, rfl, ?_⟩))) | (with_reducible first | refine u_seq ?_ | refine u_region ?_ | refine u_nil ?_ | refine u_then_n ?_ | refine u_ret ?_ | refine u_exit ?_ | refine u_in_same ?_ | refine u_then_e ?_) | ((with_reducible refine u_cond_f ?_ ?_); (· exact rfl))))
    simp only [stage2_len]
    exact u_done (by (exact ResL.cons (by exact res1c rfl (by exact rfl)) (ResL.cons (by exact Res1.tmp rfl) ResL.nil))) (some ⟨g, 0, none⟩, c') trivial rfl (fun _ h => (h.arr_sl (by (repeat (first | exact Take.here _ _ | apply Take.there)))).sub (by (repeat (first | exact Out.nil _ | (refine Out.cons (by (repeat (first | exact Take.here _ _ | apply Take.there))) ?_)))))
end Go.Proofs.Ytekjkaoibcfgfaa
