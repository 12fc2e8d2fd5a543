/- track.Narrow. -/
import Derived.Test.YtekjkaoibcfgfaaX18
import Derived.Test.YtekjkaoibcfgfaaX10
namespace Go.Proofs.Ytekjkaoibcfgfaa
open Go.RowKit
set_option maxRecDepth 20000
set_option linter.unusedSimpArgs false
set_option linter.unusedVariables false

theorem map_of {base m c : Nat} {es : Array MapEntry} {H H' : List Ent} {w : World} (ho : Own base w H) (ht : Take H (.map m es c) H') : w.heap[m]? = some (.map es c) := ho.here _ ht.mem

set_option maxHeartbeats 1000000 in
theorem narrow_any (t : List St) (A : Option Addr) (cap : Nat) (l : List Me) (B : Option Addr) (c : Nat) (w : World) (ht : SlAt encSt 9 w A t) (hs : SlAt encMe 5 w B l) (hB : ∀ b o, B = some ⟨b, o, none⟩ → b < w.heap.size) (hf : FitT t) (hfm : FitMs l) (hl : t.length ≤ 1000) (hll : l.length ≤ 1000) :
    NewSl encSt 9 (nT t l) (fun v => .tuple #[.agg #[v], .int .i64 (errN t l)]) Try.prog 39 [.agg #[.slice A t.length cap], .slice B l.length c] w := by
  unfold NewSl
  cases hv : valid t
  · have e1 : errN t l = 10 := by simp [errN, hv]
    rw [nT_no (by rw [e1]; decide), e1]
    (refine ret_enter (n := 32) Try.func39 rfl rfl rfl ?_)
    (repeat' (first | ((with_reducible refine isOps ?_); first | refine u_move rfl rfl rfl rfl rfl ?_ | refine u_assign rfl rfl rfl rfl rfl ?_ | (refine x_load rfl rfl rfl rfl rfl ?_; refine ⟨_, rfl, ?_⟩) | (refine u_cmp rfl rfl rfl rfl rfl rfl rfl (fun h => ?_) (fun h => ?_) <;> (dsimp only [cmpP] at h; (try (exfalso; omega)))) | refine u_gives rfl rfl rfl rfl rfl rfl (fun _ _ q => measured_no t A cap l B c _ (ht.below q.below) (hs.below q.below) hf hfm hl hll hv) ?_ | refine u_extract rfl rfl rfl rfl rfl rfl ?_ | (refine x_store rfl rfl rfl rfl rfl ?_; refine And.intro rfl (And.intro (by first | decide | exact Nat.le_of_ble_eq_true rfl | (simp; omega)) ⟨_, rfl, ?_⟩)) | (refine u_alloc rfl rfl rfl rfl (fun b => ?_)) | (refine u_box rfl rfl rfl rfl rfl rfl (fun b => ?_)) | (refine x_build rfl rfl rfl rfl rfl ?_; refine ⟨_, rfl, ?_⟩)) | (with_reducible first | refine u_seq ?_ | refine u_region ?_ | refine u_nil ?_ | refine u_then_n ?_ | refine u_ret ?_ | refine u_then_r ?_) | ((with_reducible refine u_cond_t ?_ ?_); (· exact rfl))))
    exact u_done (by (exact ResL.cons (by exact res1c rfl (by exact rfl)) (ResL.cons (by exact Res1.tmp rfl) ResL.nil))) (none, 0) trivial rfl (fun _ h => sl_nil h)
  cases hm : msOk t.length l
  · have e1 : errN t l = 11 := by simp [errN, hv, hm]
    rw [nT_no (by rw [e1]; decide), e1]
    (refine ret_enter (n := 32) Try.func39 rfl rfl rfl ?_)
    (repeat' (first | ((with_reducible refine isOps ?_); first | refine u_move rfl rfl rfl rfl rfl ?_ | refine u_assign rfl rfl rfl rfl rfl ?_ | (refine x_load rfl rfl rfl rfl rfl ?_; refine ⟨_, rfl, ?_⟩) | (refine u_cmp rfl rfl rfl rfl rfl rfl rfl (fun h => ?_) (fun h => ?_) <;> (dsimp only [cmpP] at h; (try (exfalso; omega)))) | refine u_gives rfl rfl rfl rfl rfl rfl (fun _ _ q => measured_bad t A cap l B c _ (ht.below q.below) (hs.below q.below) hf hfm hl hll hv hm) ?_ | refine u_extract rfl rfl rfl rfl rfl rfl ?_ | (refine x_store rfl rfl rfl rfl rfl ?_; refine And.intro rfl (And.intro (by first | decide | exact Nat.le_of_ble_eq_true rfl | (simp; omega)) ⟨_, rfl, ?_⟩)) | (refine u_alloc rfl rfl rfl rfl (fun b => ?_)) | (refine u_box rfl rfl rfl rfl rfl rfl (fun b => ?_)) | (refine x_build rfl rfl rfl rfl rfl ?_; refine ⟨_, rfl, ?_⟩)) | (with_reducible first | refine u_seq ?_ | refine u_region ?_ | refine u_nil ?_ | refine u_then_n ?_ | refine u_ret ?_ | refine u_then_r ?_) | ((with_reducible refine u_cond_t ?_ ?_); (· exact rfl))))
    exact u_done (by (exact ResL.cons (by exact res1c rfl (by exact rfl)) (ResL.cons (by exact Res1.tmp rfl) ResL.nil))) (none, 0) trivial rfl (fun _ h => sl_nil h)
  obtain ⟨s1, s2⟩ := left_same hv hm
  have h3 := fun W m hW (h : W.heap[m]? = some (.map (entsMe (KB.id l.length) l) l.length)) => left_any t A cap (KB.id l.length) l m W (ht.below hW) hv (msOk_all hm).1 (KB.id_ok _) h
  cases hb : rnB t l
  · have e1 : errN t l = 8 := by simp [errN, hv, hm, hb]
    have e2 : rnT t l = [] := by simp [rnT, hb]
    rw [nT_no (by rw [e1]; decide), e1]
    simp only [s1, s2, hb, e2] at h3
    (refine ret_enter (n := 32) Try.func39 rfl rfl rfl ?_)
    (repeat' (first | ((with_reducible refine isOps ?_); first | refine u_move rfl rfl rfl rfl rfl ?_ | refine u_assign rfl rfl rfl rfl rfl ?_ | (refine x_load rfl rfl rfl rfl rfl ?_; refine ⟨_, rfl, ?_⟩) | (refine u_cmp rfl rfl rfl rfl rfl rfl rfl (fun h => ?_) (fun h => ?_) <;> (dsimp only [cmpP] at h; (try (exfalso; omega)))) | (refine u_call rfl rfl rfl rfl rfl rfl (fun _ _ q => measured_yes t A cap l B c _ (ht.below q.below) (hs.below q.below) (fun b o e => Nat.lt_of_lt_of_le (hB b o e) q.below.size) hf hfm hl hll hv hm) ?_; rintro mm -; dsimp only [List.cons_append, List.nil_append]) | refine u_newsl rfl rfl rfl rfl rfl rfl (fun _ _ q => h3 _ _ q.below (map_of q.own (by (repeat (first | exact Take.here _ _ | apply Take.there))))) (fun A' c' => ?_) | refine u_extract rfl rfl rfl rfl rfl rfl ?_ | refine u_not rfl rfl rfl rfl rfl ?_ | (refine x_store rfl rfl rfl rfl rfl ?_; refine And.intro rfl (And.intro (by first | decide | exact Nat.le_of_ble_eq_true rfl | (simp; omega)) ⟨_, rfl, ?_⟩)) | (refine u_alloc rfl rfl rfl rfl (fun b => ?_)) | (refine u_box rfl rfl rfl rfl rfl rfl (fun b => ?_)) | (refine x_build rfl rfl rfl rfl rfl ?_; refine ⟨_, rfl, ?_⟩)) | (with_reducible first | refine u_seq ?_ | refine u_region ?_ | refine u_nil ?_ | refine u_then_n ?_ | refine u_ret ?_ | refine u_skip ?_ | refine u_then_r ?_) | ((with_reducible refine u_cond_t ?_ ?_); (· exact rfl)) | ((with_reducible refine u_cond_f ?_ ?_); (· exact rfl))))
    exact u_done (by (exact ResL.cons (by exact res1c rfl (by exact rfl)) (ResL.cons (by exact Res1.tmp rfl) ResL.nil))) (none, 0) trivial rfl (fun _ h => sl_nil h)
  · have e1 : errN t l = 0 := by simp [errN, hv, hm, hb]
    rw [nT_yes hv hm, e1]
    simp only [s1, s2, hb] at h3
    (refine ret_enter (n := 32) Try.func39 rfl rfl rfl ?_)
    (repeat' (first | ((with_reducible refine isOps ?_); first | refine u_move rfl rfl rfl rfl rfl ?_ | refine u_assign rfl rfl rfl rfl rfl ?_ | (refine x_load rfl rfl rfl rfl rfl ?_; refine ⟨_, rfl, ?_⟩) | (refine u_cmp rfl rfl rfl rfl rfl rfl rfl (fun h => ?_) (fun h => ?_) <;> (dsimp only [cmpP] at h; (try (exfalso; omega)))) | (refine u_call rfl rfl rfl rfl rfl rfl (fun _ _ q => measured_yes t A cap l B c _ (ht.below q.below) (hs.below q.below) (fun b o e => Nat.lt_of_lt_of_le (hB b o e) q.below.size) hf hfm hl hll hv hm) ?_; rintro mm -; dsimp only [List.cons_append, List.nil_append]) | refine u_newsl rfl rfl rfl rfl rfl rfl (fun _ _ q => h3 _ _ q.below (map_of q.own (by (repeat (first | exact Take.here _ _ | apply Take.there))))) (fun A' c' => ?_) | refine u_extract rfl rfl rfl rfl rfl rfl ?_ | refine u_not rfl rfl rfl rfl rfl ?_ | (refine x_store rfl rfl rfl rfl rfl ?_; refine And.intro rfl (And.intro (by first | decide | exact Nat.le_of_ble_eq_true rfl | (simp; omega)) ⟨_, rfl, ?_⟩)) | (refine u_alloc rfl rfl rfl rfl (fun b => ?_)) | (refine u_box rfl rfl rfl rfl rfl rfl (fun b => ?_))) | (with_reducible first | refine u_seq ?_ | refine u_region ?_ | refine u_nil ?_ | refine u_then_n ?_ | refine u_ret ?_ | refine u_skip ?_) | ((with_reducible refine u_cond_f ?_ ?_); (· exact rfl))))
    exact u_done (by (exact ResL.cons (by exact res1c rfl (by exact rfl)) (ResL.cons (by exact Res1.tmp rfl) ResL.nil))) (A', c') trivial rfl (fun _ h => h.sub (by (repeat (first | exact Out.nil _ | (refine Out.cons (by (repeat (first | exact Take.here _ _ | apply Take.there))) ?_)))))
end Go.Proofs.Ytekjkaoibcfgfaa
