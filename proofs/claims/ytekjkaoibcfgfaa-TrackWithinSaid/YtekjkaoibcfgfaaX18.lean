/- Narrow: both, in plain Lean; the reference's. -/
import Derived.Test.YtekjkaoibcfgfaaX17
import Derived.Test.YtekjkaoibcfgfaaX6
namespace Go.Proofs.Ytekjkaoibcfgfaa
open Go.RowKit
set_option maxRecDepth 20000
set_option linter.unusedSimpArgs false
set_option linter.unusedVariables false

noncomputable def errN (t : List St) (ms : List Me) : Int := if valid t then (if msOk t.length ms then (if rnB t ms then 0 else 8) else 11) else 10
noncomputable def nT (t : List St) (ms : List Me) : List St := if valid t && msOk t.length ms then rnT t ms else []
theorem msOk_all {n : Nat} {l : List Me} (h : msOk n l = true) : (∀ m ∈ l, meOk n m = true) ∧ l.length ≤ 12 := by
  simp only [msOk, Bool.and_eq_true, decide_eq_true_eq] at h
  exact ⟨fun m hm => List.all_eq_true.1 h.2 m hm, h.1⟩
theorem hullB_iff {kind : Int} {s : List Sp} {ms : List Me} : hullB kind s ms = true ↔ fine (s.length + 1) (hullD kind s ms) (s.length + 1) := by simp [hullB]
theorem falls_stage {t : List St} {ms : List Me} : falls (stage1 t ms) = falls t := by
  unfold falls stage1
  apply List.ext_getElem?
  intro j
  rw [List.getElem?_map, List.getElem?_map, updTo_get]
  cases t[j]? with
  | none => rfl
  | some z => by_cases h : j < t.length <;> simp [h, setLong]
theorem left_same {t : List St} {ms : List Me} (hv : valid t = true) (hm : msOk t.length ms = true) : leftB t ms = rnB t ms ∧ leftT t ms = rnT t ms := by
  have ho := valid_okay hv
  have hlen := valid_len hv
  have hokm : ∀ m ∈ ms, okMe (t.length + 1) m := fun m h => meOk_okMe ((msOk_all hm).1 m h)
  have a1 := narrow_same (okSps_longs ho) (show t.length + 1 ≤ 13 by omega) hokm (fun _ => Iff.rfl) 1
  have a2 := narrow_same (okSps_falls ho) (show t.length + 1 ≤ 13 by omega) hokm (fun _ => Iff.rfl) 2
  have b1 : fine1 t ms ↔ hullB 1 (longs t) ms = true := by rw [hullB_iff, longs_len]; exact a1.1
  have b2 : fine2 t ms ↔ hullB 2 (falls t) ms = true := by
    rw [hullB_iff, falls_len]
    unfold fine2 fineK
    rw [falls_stage]; exact a2.1
  have e : leftB t ms = rnB t ms := by
    rw [Bool.eq_iff_iff]
    simp only [leftB, rnB, decide_eq_true_eq, Bool.and_eq_true, b1, b2]
  refine ⟨e, ?_⟩
  unfold leftT rnT
  rw [e]
  cases hB : rnB t ms with
  | false => rfl
  | true =>
    simp only [if_true]
    simp only [rnB, Bool.and_eq_true] at hB
    have f1 := a1.2 (b1.2 hB.1)
    have f2 := a2.2 (by have := b2.2 hB.2; unfold fine2 fineK at this; rw [falls_stage] at this; exact this)
    unfold stage2 rnL
    rw [falls_stage]
    apply List.ext_getElem?
    intro j
    rw [updTo_get, updTo_get]
    unfold stage1
    rw [updTo_get]
    cases hj : t[j]? with
    | none => rfl
    | some z =>
      have hlt := (List.getElem?_eq_some_iff.1 hj).1
      simp only [Option.map_some, hlt, if_true, setFall, setLong, setBoth, newSp, hullE, hullD, dist, longs_len, falls_len]
      rw [f1 (j + 1) j (by omega) (by omega), f1 j (j + 1) (by omega) (by omega), f2 (j + 1) j (by omega) (by omega), f2 j (j + 1) (by omega) (by omega)]
theorem nT_yes {t : List St} {ms : List Me} (h1 : valid t = true) (h2 : msOk t.length ms = true) : nT t ms = rnT t ms := by simp [nT, h1, h2]
theorem nT_no {t : List St} {ms : List Me} (h : errN t ms ≠ 0) : nT t ms = [] := by
  unfold nT rnT
  unfold errN at h
  cases h1 : valid t <;> cases h2 : msOk t.length ms <;> simp [h1, h2] at h ⊢
  simp [h]
theorem nT_len {t : List St} {ms : List Me} : (nT t ms).length ≤ t.length := by
  unfold nT rnT rnL
  split
  · split
    · rw [updTo_len]; exact Nat.le_refl _
    · simp
  · simp

set_option maxHeartbeats 1000000 in
theorem rNarrow_any (t : List St) (A : Option Addr) (cap : Nat) (l : List Me) (B : Option Addr) (c : Nat) (w : World) (ht : SlAt encSt 9 w A t) (hs : SlAt encMe 5 w B l) (hf : FitT t) (hfm : FitMs l) (hl : t.length ≤ 1000) (hll : l.length ≤ 1000) :
    NewSl encSt 9 (nT t l) (fun v => .tuple #[.agg #[v], .int .i64 (errN t l)]) Try.prog 40 [.agg #[.slice A t.length cap], .slice B l.length c] w := by
  unfold NewSl
  have h1 := fun W (h : Below w.heap.size w W) => (track_any t A cap W (ht.below h) hf (by omega)).gv
  unfold vT at h1
  have h2 := fun W (h : Below w.heap.size w W) => rMeasures_any t A cap l B c W (hs.below h) hfm (by omega)
  cases hv : valid t
  · have e1 : errN t l = 10 := by simp [errN, hv]
    rw [nT_no (by rw [e1]; decide), e1]
    simp only [hv] at h1
    (refine ret_enter (n := 27) Try.func40 rfl rfl rfl ?_)
    (repeat' (first | ((with_reducible refine isOps ?_); first | refine u_assign rfl rfl rfl rfl rfl ?_ | (refine x_load rfl rfl rfl rfl rfl ?_; refine ⟨_, rfl, ?_⟩) | refine u_gives rfl rfl rfl rfl rfl rfl (fun _ _ q => h1 _ q.below) ?_ | refine u_not rfl rfl rfl rfl rfl ?_ | (refine x_store rfl rfl rfl rfl rfl ?_; refine And.intro rfl (And.intro (by first | decide | exact Nat.le_of_ble_eq_true rfl | (simp; omega)) ⟨_, rfl, ?_⟩)) | (refine u_alloc rfl rfl rfl rfl (fun b => ?_)) | (refine u_box rfl rfl rfl rfl rfl rfl (fun b => ?_)) | (refine x_build rfl rfl rfl rfl rfl ?_; refine ⟨_, rfl, ?_⟩)) | (with_reducible first | refine u_seq ?_ | refine u_region ?_ | refine u_nil ?_ | refine u_then_n ?_ | refine u_ret ?_ | refine u_then_r ?_) | ((with_reducible refine u_cond_t ?_ ?_); (· exact rfl))))
    exact u_done (by (exact ResL.cons (by exact res1c rfl (by exact rfl)) (ResL.cons (by exact Res1.tmp rfl) ResL.nil))) (none, 0) trivial rfl (fun _ h => sl_nil h)
  simp only [hv] at h1
  cases hm : msOk t.length l
  · have e1 : errN t l = 11 := by simp [errN, hv, hm]
    rw [nT_no (by rw [e1]; decide), e1]
    simp only [hm] at h2
    (refine ret_enter (n := 27) Try.func40 rfl rfl rfl ?_)
    (repeat' (first | ((with_reducible refine isOps ?_); first | refine u_move rfl rfl rfl rfl rfl ?_ | refine u_assign rfl rfl rfl rfl rfl ?_ | (refine x_load rfl rfl rfl rfl rfl ?_; refine ⟨_, rfl, ?_⟩) | refine u_gives rfl rfl rfl rfl rfl rfl (fun _ _ q => h1 _ q.below) ?_ | refine u_gives rfl rfl rfl rfl rfl rfl (fun _ _ q => h2 _ q.below) ?_ | refine u_not rfl rfl rfl rfl rfl ?_ | (refine x_store rfl rfl rfl rfl rfl ?_; refine And.intro rfl (And.intro (by first | decide | exact Nat.le_of_ble_eq_true rfl | (simp; omega)) ⟨_, rfl, ?_⟩)) | (refine u_alloc rfl rfl rfl rfl (fun b => ?_)) | (refine u_box rfl rfl rfl rfl rfl rfl (fun b => ?_)) | (refine x_build rfl rfl rfl rfl rfl ?_; refine ⟨_, rfl, ?_⟩)) | (with_reducible first | refine u_seq ?_ | refine u_region ?_ | refine u_nil ?_ | refine u_then_n ?_ | refine u_ret ?_ | refine u_skip ?_ | refine u_then_r ?_) | ((with_reducible refine u_cond_t ?_ ?_); (· exact rfl)) | ((with_reducible refine u_cond_f ?_ ?_); (· exact rfl))))
    exact u_done (by (exact ResL.cons (by exact res1c rfl (by exact rfl)) (ResL.cons (by exact Res1.tmp rfl) ResL.nil))) (none, 0) trivial rfl (fun _ h => sl_nil h)
  simp only [hm] at h2
  have h3 := fun W (h : Below w.heap.size w W) => rnarrow_any t A cap l B c W (ht.below h) hv (hs.below h) (by omega) (msOk_all hm).1
  cases hb : rnB t l
  · have e1 : errN t l = 8 := by simp [errN, hv, hm, hb]
    have e2 : rnT t l = [] := by simp [rnT, hb]
    rw [nT_no (by rw [e1]; decide), e1]
    simp only [hb, e2] at h3
    (refine ret_enter (n := 27) Try.func40 rfl rfl rfl ?_)
    (repeat' (first | ((with_reducible refine isOps ?_); first | refine u_move rfl rfl rfl rfl rfl ?_ | refine u_assign rfl rfl rfl rfl rfl ?_ | (refine x_load rfl rfl rfl rfl rfl ?_; refine ⟨_, rfl, ?_⟩) | refine u_gives rfl rfl rfl rfl rfl rfl (fun _ _ q => h1 _ q.below) ?_ | refine u_gives rfl rfl rfl rfl rfl rfl (fun _ _ q => h2 _ q.below) ?_ | refine u_newsl rfl rfl rfl rfl rfl rfl (fun _ _ q => h3 _ q.below) (fun A' c' => ?_) | refine u_extract rfl rfl rfl rfl rfl rfl ?_ | refine u_not rfl rfl rfl rfl rfl ?_ | (refine x_store rfl rfl rfl rfl rfl ?_; refine And.intro rfl (And.intro (by first | decide | exact Nat.le_of_ble_eq_true rfl | (simp; omega)) ⟨_, rfl, ?_⟩)) | (refine u_alloc rfl rfl rfl rfl (fun b => ?_)) | (refine u_box rfl rfl rfl rfl rfl rfl (fun b => ?_)) | (refine x_build rfl rfl rfl rfl rfl ?_; refine ⟨_, rfl, ?_⟩)) | (with_reducible first | refine u_seq ?_ | refine u_region ?_ | refine u_nil ?_ | refine u_then_n ?_ | refine u_ret ?_ | refine u_skip ?_ | refine u_then_r ?_) | ((with_reducible refine u_cond_t ?_ ?_); (· exact rfl)) | ((with_reducible refine u_cond_f ?_ ?_); (· exact rfl))))
    exact u_done (by (exact ResL.cons (by exact res1c rfl (by exact rfl)) (ResL.cons (by exact Res1.tmp rfl) ResL.nil))) (none, 0) trivial rfl (fun _ h => sl_nil h)
  · have e1 : errN t l = 0 := by simp [errN, hv, hm, hb]
    rw [nT_yes hv hm, e1]
    simp only [hb] at h3
    (refine ret_enter (n := 27) Try.func40 rfl rfl rfl ?_)
    (repeat' (first | ((with_reducible refine isOps ?_); first | refine u_move rfl rfl rfl rfl rfl ?_ | refine u_assign rfl rfl rfl rfl rfl ?_ | (refine x_load rfl rfl rfl rfl rfl ?_; refine ⟨_, rfl, ?_⟩) | refine u_gives rfl rfl rfl rfl rfl rfl (fun _ _ q => h1 _ q.below) ?_ | refine u_gives rfl rfl rfl rfl rfl rfl (fun _ _ q => h2 _ q.below) ?_ | refine u_newsl rfl rfl rfl rfl rfl rfl (fun _ _ q => h3 _ q.below) (fun A' c' => ?_) | refine u_extract rfl rfl rfl rfl rfl rfl ?_ | refine u_not rfl rfl rfl rfl rfl ?_ | (refine x_store rfl rfl rfl rfl rfl ?_; refine And.intro rfl (And.intro (by first | decide | exact Nat.le_of_ble_eq_true rfl | (simp; omega)) ⟨_, rfl, ?_⟩)) | (refine u_alloc rfl rfl rfl rfl (fun b => ?_)) | (refine u_box rfl rfl rfl rfl rfl rfl (fun b => ?_))) | (with_reducible first | refine u_seq ?_ | refine u_region ?_ | refine u_nil ?_ | refine u_then_n ?_ | refine u_ret ?_ | refine u_skip ?_) | ((with_reducible refine u_cond_f ?_ ?_); (· exact rfl))))
    exact u_done (by (exact ResL.cons (by exact res1c rfl (by exact rfl)) (ResL.cons (by exact Res1.tmp rfl) ResL.nil))) (A', c') trivial rfl (fun _ h => h.sub (by (repeat (first | exact Out.nil _ | (refine Out.cons (by (repeat (first | exact Take.here _ _ | apply Take.there))) ?_)))))
end Go.Proofs.Ytekjkaoibcfgfaa
