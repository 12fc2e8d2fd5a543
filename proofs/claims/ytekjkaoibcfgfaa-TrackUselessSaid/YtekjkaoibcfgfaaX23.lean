/- track.Useless. -/
import Derived.Test.YtekjkaoibcfgfaaX22
import Derived.Test.YtekjkaoibcfgfaaX20
namespace Go.Proofs.Ytekjkaoibcfgfaa
open Go.RowKit
set_option maxRecDepth 20000
set_option linter.unusedSimpArgs false
set_option linter.unusedVariables false

theorem cut_below {w W : World} (h : Below w.heap.size w W) : Below w.heap.size w (cutW W w.heap.size) := by
  have hs := h.size
  refine ⟨h.os, h.tape, h.output, by rw [cutW_sizeL hs]; exact Nat.le_refl _, fun b hb => ?_⟩
  rw [← (cutW_belowL hs).block b (by rw [cutW_sizeL hs]; exact hb)]
  exact h.block b hb
/-- what Useless holds while it looks for useless measures -/
abbrev Sta (m ba bv bl : Nat) (A : Option Addr) (n cap : Nat) (AL : Option Addr) (cL : Nat) (xs : List St) (s : KB × List Me) : List Ent :=
  [.map m (entsMe s.1 s.2) s.1.c, .blk ba [.map (some m)], .blk bv [.slice A n cap], .blk bl [.slice AL xs.length cL], .sl encSt 9 AL xs]
theorem sta_feet {m ba bv bl n cap cL : Nat} {A AL : Option Addr} {xs : List St} {s s' : KB × List Me} {b : Nat} (h : feet (Sta m ba bv bl A n cap AL cL xs s) b) : feet (Sta m ba bv bl A n cap AL cL xs s') b := by
  simp only [feet_cons] at h ⊢
  exact h
theorem keys_int {kb : KB} {ms : List Me} : ∀ e ∈ (entsMe kb ms).toList, ∃ l, e.key = .int .i64 l := fun e he => by
  obtain ⟨i, m, _, rfl⟩ := ents_mem.1 he
  exact ⟨_, rfl⟩
theorem errN_ok {t : List St} {l : List Me} (hv : valid t = true) (hm : msOk t.length l = true) (i : Nat) : msOk t.length (l.eraseIdx i) = true := by
  obtain ⟨h1, h2⟩ := msOk_all hm
  simp only [msOk, Bool.and_eq_true, decide_eq_true_eq]
  refine ⟨by have := List.length_eraseIdx_le l i; omega, List.all_eq_true.2 fun m h => h1 m (List.mem_of_mem_eraseIdx h)⟩

set_option maxHeartbeats 2000000 in
theorem useless1_any (t : List St) (A : Option Addr) (cap : Nat) (l : List Me) (hv : valid t = true) (hm : msOk t.length l = true) (i : Nat) (x : Me) (hx : l[i]? = some x) (s : KB × List Me) (ha : Arr l s.1 s.2) (m ba bv bl : Nat) (AL : Option Addr) (cL lo : Nat) (W : World) (hlo : lo ≤ W.heap.size) (hO : Own lo W (Sta m ba bv bl A t.length cap AL cL (rnT t l) s)) (ht : SlAt encSt 9 (cutW W lo) A t) :
    RetF Try.prog 78 [.int .i64 (i : Int), vMe x, .pointer (some ⟨ba, 0, none⟩), .pointer (some ⟨bv, 0, none⟩), .pointer (some ⟨bl, 0, none⟩)] W (Sta m ba bv bl A t.length cap AL cL (rnT t l) s)
      (fun _ : KB × List Me => .bool (Two.uselessP t l i x)) (Sta m ba bv bl A t.length cap AL cL (rnT t l)) (fun s' => Arr l s'.1 s'.2) := by
  obtain ⟨kb, ms⟩ := s
  simp only at ha
  have hi : i < l.length := (List.getElem?_eq_some_iff.1 hx).1
  obtain ⟨j, hj, hji⟩ := ha.at_ hi
  have hjm : j < ms.length := by rw [ha.len]; exact hj
  have hm1 := msOk_all hm
  have hmE := errN_ok hv hm i
  have hmE1 := msOk_all hmE
  have hok' : ∀ z ∈ ms.eraseIdx j, meOk t.length z = true := fun z hz => hmE1.1 z ((ha.mem_del hj hji z).1 hz)
  have hperm := left_perm (t := t) (ms := l.eraseIdx i) (ms' := ms.eraseIdx j) (fun z hz => meOk_okMe (hmE1.1 z hz)) (ha.mem_del hj hji)
  have hsame := left_same hv hmE
  have eT : leftT t (ms.eraseIdx j) = rnT t (l.eraseIdx i) := hperm.2.trans hsame.2
  have hdk := ha.del_ok hj
  have hle := Two.rnT_len (t := t) (l := l)
  have hle2 := Two.rnT_len (t := t) (l := l.eraseIdx i)
  have hln := valid_len hv
  have H3 := fun W' m' (hA : SlAt encSt 9 W' A t) (h : W'.heap[m']? = some (.map (entsMe (delKB kb j) (ms.eraseIdx j)) (delKB kb j).c)) => left_any t A cap (delKB kb j) (ms.eraseIdx j) m' W' hA hv hok' hdk h
  rw [eT] at H3
  have hz : ms[j]? = some x := by rw [ha.val j hj, hji]; exact hx
  have hfst : ∀ k' y, k' < j → (entsMe kb ms).toList[k']? = some y → y.key ≠ .int .i64 (i : Int) := fun k' y hk hy he => by
    simp only [entsMe, entsL, List.getElem?_mapIdx] at hy
    cases h : ms[k']? with
    | none => rw [h] at hy; simp at hy
    | some z =>
      rw [h] at hy
      simp only [Option.map_some, Option.some.injEq] at hy
      subst hy
      simp only [entMe, Value.int.injEq, true_and] at he
      have := ha.inj k' j (by omega) hj (by omega)
      omega
  have hnew : ∀ e ∈ (entsMe (delKB kb j) (ms.eraseIdx j)).toList, ∃ l', e.key = .int .i64 l' ∧ l' ≠ (i : Int) := fun e he => by
    obtain ⟨q, z, hq, rfl⟩ := ents_mem.1 he
    refine ⟨_, rfl, fun h => ?_⟩
    have hql := (List.getElem?_eq_some_iff.1 hq).1
    rw [List.length_eraseIdx, if_pos hjm, ha.len] at hql
    have h9 : kb.K (sh j q) = i := by simp only [delKB] at h; omega
    exact sh_ne (ha.inj _ _ (sh_lt hql) hj (h9.trans hji.symm))
  refine ret_enterF (n := 26) lo hlo hO Try.func78 rfl rfl rfl ?_
  simp only [List.cons_append, List.nil_append]
  (repeat' (first | ((with_reducible refine isOps ?_); first | refine u_move rfl rfl rfl rfl rfl ?_ | refine u_assign rfl rfl rfl rfl rfl ?_ | (refine x_load rfl rfl rfl rfl rfl ?_; refine ⟨_, rfl, ?_⟩) | (refine u_delete (j := j) (e := entMe kb j x) rfl rfl rfl rfl rfl rfl (by (repeat (first | exact Take.here _ _ | apply Take.there))) keys_int (by simp [entsMe, entsL, List.getElem?_mapIdx, hz]) (by simp [entMe, hji]) hfst ?_) | (refine u_box rfl rfl rfl rfl rfl rfl (fun b => ?_))) | (with_reducible first | refine u_seq ?_ | refine u_region ?_ | refine u_nil ?_ | refine u_then_n ?_)))
  rw [ents_del hjm]
  (repeat' (first | ((with_reducible refine isOps ?_); first | refine u_move rfl rfl rfl rfl rfl ?_ | refine u_assign rfl rfl rfl rfl rfl ?_ | (refine x_load rfl rfl rfl rfl rfl ?_; refine ⟨_, rfl, ?_⟩) | refine u_field rfl rfl rfl rfl rfl ?_ | refine u_newsl rfl rfl rfl rfl rfl rfl (fun _ _ q => H3 _ _ (ht.below q.below) (map_of q.own (by (repeat (first | exact Take.here _ _ | apply Take.there))))) (fun A' c' => ?_) | (refine u_mapNew rfl rfl rfl rfl rfl rfl rfl (by (repeat (first | exact Take.here _ _ | apply Take.there))) hnew ?_) | refine u_gives rfl rfl rfl rfl rfl rfl (fun _ _ q => equal_any (rnT t (l.eraseIdx i)) (rnT t l) _ _ _ _ _ (sl_at q.own (Below.refl _ _)) (sl_at q.own (Below.refl _ _)) (by omega) (by omega)) ?_ | refine u_extract rfl rfl rfl rfl rfl rfl ?_ | (refine x_store rfl rfl rfl rfl rfl ?_; refine And.intro rfl (And.intro (by first | decide | exact Nat.le_of_ble_eq_true rfl | (simp; omega)) ⟨_, rfl, ?_⟩)) | (refine u_alloc rfl rfl rfl rfl (fun b => ?_))) | (with_reducible first | refine u_seq ?_ | refine u_region ?_ | refine u_nil ?_ | refine u_then_n ?_ | refine u_ret ?_)))
  refine u_own (H' := [.map m ((entsMe (delKB kb j) (ms.eraseIdx j)).push ⟨.int .i64 (i : Int), vMe x, (delKB kb j).c⟩) ((delKB kb j).c + 1), .blk ba [.map (some m)], .blk bv [.slice A t.length cap], .blk bl [.slice AL (rnT t l).length cL], .sl encSt 9 AL (rnT t l), .oldx W lo (feet (Sta m ba bv bl A t.length cap AL cL (rnT t l) (kb, ms)))]) (fun _ h => h.sub (by (repeat (first | exact Out.nil _ | (refine Out.cons (by (repeat (first | exact Take.here _ _ | apply Take.there))) ?_))))) ?_
  rw [ents_put]
  exact u_doneF (by (exact ResL.cons (by exact Res1.tmp rfl) ResL.nil)) (putKB (delKB kb j) i (ms.eraseIdx j).length, ms.eraseIdx j ++ [x]) (ha.put hj hji hx) rfl hlo (fun _ h => h) (fun _ h => sta_feet h)

theorem cut_sl {α : Type} {enc : α → List Value} {k lo : Nat} {w W : World} {A : Option Addr} {xs : List α} (hlo : lo ≤ w.heap.size) (hB : Below (cutW w lo).heap.size (cutW w lo) W) (h : SlAt enc k (cutW w lo) A xs) : SlAt enc k (cutW W lo) A xs := by
  have e := cutW_sizeL hlo
  have h1 := h.below (cut_below hB)
  rw [e] at h1
  exact h1

set_option maxHeartbeats 2000000 in
theorem pickUse_any (t : List St) (A : Option Addr) (cap : Nat) (l : List Me) (B : Option Addr) (cB : Nat) (hv : valid t = true) (hm : msOk t.length l = true) (m ba bv bl : Nat) (AL : Option Addr) (cL lo : Nat) (W : World) (s0 : KB × List Me) (ha : Arr l s0.1 s0.2) (hlo : lo ≤ W.heap.size) (hO : Own lo W (Sta m ba bv bl A t.length cap AL cL (rnT t l) s0)) (ht : SlAt encSt 9 (cutW W lo) A t) (hs : SlAt encMe 5 (cutW W lo) B l) :
    RetF Try.prog 77 [.slice B l.length cB, .func (.func 78) #[] #[.pointer (some ⟨ba, 0, none⟩), .pointer (some ⟨bv, 0, none⟩), .pointer (some ⟨bl, 0, none⟩)]] W (Sta m ba bv bl A t.length cap AL cL (rnT t l) s0)
      (fun z : (KB × List Me) × Option Addr × Nat => .slice z.2.1 (picks (fun i x => Two.uselessP t l i x) l).length z.2.2) (fun z => Sta m ba bv bl A t.length cap AL cL (rnT t l) z.1 ++ [.sl encI 1 z.2.1 (picks (fun i x => Two.uselessP t l i x) l)]) (fun _ => True) := by
  have hl12 := (msOk_all hm).2
  refine ret_enterF (n := 25) lo hlo hO Try.func77 rfl rfl rfl ?_
  simp only [List.cons_append, List.nil_append]
  (repeat' (first | ((with_reducible refine isOps ?_); first | refine u_move rfl rfl rfl rfl rfl ?_ | refine u_assign rfl rfl rfl rfl rfl ?_ | refine u_len rfl rfl rfl rfl rfl ?_) | (with_reducible first | refine u_seq ?_ | refine u_region ?_ | refine u_nil ?_ | refine u_then_n ?_ | refine u_block ?_)))
  refine u_row_nil encI 1 3 ?_
  refine u_loop (ι := Nat × Value × (KB × List Me)) (fun j => j.1 ≤ l.length ∧ Arr l j.2.2.1 j.2.2.2) (fun j => [(1, .func (.func 78) #[] #[.pointer (some ⟨ba, 0, none⟩), .pointer (some ⟨bv, 0, none⟩), .pointer (some ⟨bl, 0, none⟩)]), (5, j.2.1), (8, .slice B l.length cB), (9, .int .i64 (l.length : Int)), (10, .int .i64 (j.1 : Int))]) (fun j => [.row encI 1 3 j.2.1 (picksTo (fun i x => Two.uselessP t l i x) l j.1), .map m (entsMe j.2.2.1 j.2.2.2) j.2.2.1.c, .blk ba [.map (some m)], .blk bv [.slice A t.length cap], .blk bl [.slice AL (rnT t l).length cL], .sl encSt 9 AL (rnT t l), .oldx W lo (feet (Sta m ba bv bl A t.length cap AL cL (rnT t l) s0))]) (fun j => l.length - j.1) (0, .slice none 0 0, s0) ⟨Nat.zero_le _, ha⟩ (by (first | exact fun _ _ h => lk_nil h | (repeat (first | exact (fun _ _ h => lk_nil h) | (refine lk_sub rfl ?_))))) (by (repeat (first | exact Out.nil _ | (refine Out.cons (by (repeat (first | exact Take.here _ _ | apply Take.there))) ?_)))) ?_
  clear ha
  rintro ⟨i, v, kb, ms⟩ ⟨hi, ha⟩
  simp only at hi ha ⊢
  have hpl := picksTo_len (fun i x => Two.uselessP t l i x) l i
  by_cases hlt : i < l.length
  · have hx : l[i]? = some l[i] := by simp [hlt]
    obtain ⟨bb, ob, rfl, _⟩ := hs.at_ hlt
    have : InS (cutW W lo) bb ob encMe 5 l := ⟨hs⟩
    have : GetI l i l[i] := ⟨hx⟩
    have hso : soAt (fun i x => Two.uselessP t l i x) l i = Two.uselessP t l i l[i] := by simp [soAt, hlt]
    generalize l[i] = x at *
    (repeat' (first | ((with_reducible refine isOps ?_); first | refine u_move rfl rfl rfl rfl rfl ?_ | refine u_assign rfl rfl rfl rfl rfl ?_ | (refine x_load rfl rfl rfl rfl rfl ?_; refine ⟨_, rfl, ?_⟩) | (refine u_cmp rfl rfl rfl rfl rfl rfl rfl (fun h => ?_) (fun h => ?_) <;> (dsimp only [cmpP] at h; (try (exfalso; omega)))) | refine u_index rfl rfl rfl rfl rfl rfl rfl (by omega) ?_ | (refine x_store rfl rfl rfl rfl rfl ?_; refine And.intro rfl (And.intro (by first | decide | exact Nat.le_of_ble_eq_true rfl | (simp; omega)) ⟨_, rfl, ?_⟩)) | (refine u_alloc rfl rfl rfl rfl (fun b => ?_))) | (with_reducible first | refine u_seq ?_ | refine u_region ?_ | refine u_nil ?_ | refine u_then_n ?_ | refine u_skip ?_ | refine u_block ?_) | ((with_reducible refine u_cond_t ?_ ?_); (· exact rfl))))
    refine u_callF (Sta m ba bv bl A t.length cap AL cL (rnT t l) (kb, ms)) [.row encI 1 3 v (picksTo (fun i x => Two.uselessP t l i x) l i), .oldx W lo (feet (Sta m ba bv bl A t.length cap AL cL (rnT t l) s0))] rfl rfl rfl rfl rfl rfl (by (repeat (first | exact Out.nil _ | (refine Out.cons (by (repeat (first | exact Take.here _ _ | apply Take.there))) ?_)))) (fun a W' q => useless1_any t A cap l hv hm i x hx (kb, ms) ha m ba bv bl AL cL lo W' (by have := q.below.size; rwa [cutW_sizeL hlo] at this) (by have := (Own.append.1 q.own).1; rwa [cutW_sizeL hlo] at this) (cut_sl hlo q.below ht)) ?_
    rintro ⟨kb2, ms2⟩ ha2
    simp only at ha2
    simp only [List.cons_append, List.nil_append]
    cases hu : Two.uselessP t l i x
    · (repeat' (first | ((with_reducible refine isOps ?_); first | refine u_move rfl rfl rfl rfl rfl ?_ | refine u_add1 rfl rfl rfl rfl rfl rfl (by omega) ?_) | (with_reducible first | refine u_region ?_ | refine u_nil ?_ | refine u_then_n ?_ | refine u_skip ?_ | refine u_in_n ?_) | ((with_reducible refine u_cond_f ?_ ?_); (· exact rfl))))
      refine u_again (i + 1, v, kb2, ms2) ⟨by omega, ha2⟩ (by simp only; omega) (by (first | exact fun _ _ h => lk_nil h | (repeat (first | exact (fun _ _ h => lk_nil h) | (refine lk_sub rfl ?_))))) ?_
      rw [picksTo_no (hso.trans hu)]
      (repeat (first | exact Out.nil _ | (refine Out.cons (by (repeat (first | exact Take.here _ _ | apply Take.there))) ?_)))
    · (repeat' (first | ((with_reducible refine isOps ?_); first | refine u_move rfl rfl rfl rfl rfl ?_ | refine u_assign rfl rfl rfl rfl rfl ?_ | (refine u_append (enc := encI) [_] rfl rfl rfl rfl rfl (by (repeat (first | exact Take.here _ _ | apply Take.there))) rfl rfl (src_one (by exact rfl)) (by refine ⟨?_, by decide⟩; (try simp only [List.length_append, List.length_cons, List.length_nil]); omega) (fun A' c' => ?_)) | refine u_add1 rfl rfl rfl rfl rfl rfl (by omega) ?_ | (refine x_buildSlice rfl rfl rfl rfl rfl ?_; refine ⟨rfl, _, rfl, fun b => ?_⟩)) | (with_reducible first | refine u_region ?_ | refine u_nil ?_ | refine u_then_n ?_ | refine u_in_n ?_) | ((with_reducible refine u_cond_t ?_ ?_); (· exact rfl))))
      refine u_again (i + 1, .slice A' (picksTo (fun i x => Two.uselessP t l i x) l i ++ [(i : Int)]).length c', kb2, ms2) ⟨by omega, ha2⟩ (by simp only; omega) (by (first | exact fun _ _ h => lk_nil h | (repeat (first | exact (fun _ _ h => lk_nil h) | (refine lk_sub rfl ?_))))) ?_
      rw [picksTo_yes (hso.trans hu)]
      (repeat (first | exact Out.nil _ | (refine Out.cons (by (repeat (first | exact Take.here _ _ | apply Take.there))) ?_)))
  · obtain rfl : i = l.length := by omega
    (repeat' (first | ((with_reducible refine isOps ?_); first | refine u_move rfl rfl rfl rfl rfl ?_ | refine u_assign rfl rfl rfl rfl rfl ?_ | (refine u_cmp rfl rfl rfl rfl rfl rfl rfl (fun h => ?_) (fun h => ?_) <;> (dsimp only [cmpP] at h; (try (exfalso; omega))))) | (with_reducible first | refine u_seq ?_ | refine u_region ?_ | refine u_nil ?_ | refine u_then_n ?_ | refine u_ret ?_ | refine u_exit ?_ | refine u_in_same ?_ | refine u_then_e ?_) | ((with_reducible refine u_cond_f ?_ ?_); (· exact rfl))))
    refine u_row_form (enc := encI) (by (repeat (first | exact Take.here _ _ | apply Take.there))) ?_
    rintro A9 c9 rfl
    exact u_doneF (by (exact ResL.cons (by exact Res1.tmp rfl) ResL.nil)) ((kb, ms), A9, c9) trivial rfl hlo (fun _ h => (h.row_sl (by (repeat (first | exact Take.here _ _ | apply Take.there)))).sub (by (repeat (first | exact Out.nil _ | (refine Out.cons (by (repeat (first | exact Take.here _ _ | apply Take.there))) ?_))))) (fun b h => by
      have h2 := sta_feet (s' := (kb, ms)) h
      obtain ⟨e, he, hS⟩ := h2
      exact ⟨e, List.mem_append_left _ he, hS⟩)

set_option maxHeartbeats 2000000 in
theorem useless_any (t : List St) (A : Option Addr) (cap : Nat) (l : List Me) (B : Option Addr) (c : Nat) (w : World) (ht : SlAt encSt 9 w A t) (hs : SlAt encMe 5 w B l) (hB : ∀ b o, B = some ⟨b, o, none⟩ → b < w.heap.size) (hf : FitT t) (hfm : FitMs l) (hl : t.length ≤ 1000) (hll : l.length ≤ 1000) :
    NewSl encI 1 (Two.uselT t l) (fun v => .tuple #[v, .int .i64 (errN t l)]) Try.prog 41 [.agg #[.slice A t.length cap], .slice B l.length c] w := by
  unfold NewSl
  cases hv : valid t
  · have e1 : errN t l = 10 := by simp [errN, hv]
    have e2 : Two.uselT t l = [] := by simp [Two.uselT, e1]
    rw [e1, e2]
    (refine ret_enter (n := 32) Try.func41 rfl rfl rfl ?_)
    (repeat' (first | ((with_reducible refine isOps ?_); first | refine u_move rfl rfl rfl rfl rfl ?_ | refine u_assign rfl rfl rfl rfl rfl ?_ | (refine x_load rfl rfl rfl rfl rfl ?_; refine ⟨_, rfl, ?_⟩) | (refine u_cmp rfl rfl rfl rfl rfl rfl rfl (fun h => ?_) (fun h => ?_) <;> (dsimp only [cmpP] at h; (try (exfalso; omega)))) | refine u_gives rfl rfl rfl rfl rfl rfl (fun _ _ q => measured_no t A cap l B c _ (ht.below q.below) (hs.below q.below) hf hfm hl hll hv) ?_ | refine u_extract rfl rfl rfl rfl rfl rfl ?_ | (refine x_store rfl rfl rfl rfl rfl ?_; refine And.intro rfl (And.intro (by first | decide | exact Nat.le_of_ble_eq_true rfl | (simp; omega)) ⟨_, rfl, ?_⟩)) | (refine u_alloc rfl rfl rfl rfl (fun b => ?_)) | (refine u_box rfl rfl rfl rfl rfl rfl (fun b => ?_))) | (with_reducible first | refine u_seq ?_ | refine u_region ?_ | refine u_nil ?_ | refine u_then_n ?_ | refine u_ret ?_ | refine u_then_r ?_) | ((with_reducible refine u_cond_t ?_ ?_); (· exact rfl))))
    exact u_done (by (exact ResL.cons (by exact Res1.tmp rfl) (ResL.cons (by exact Res1.tmp rfl) ResL.nil))) (none, 0) trivial rfl (fun _ h => sl_nil h)
  cases hm : msOk t.length l
  · have e1 : errN t l = 11 := by simp [errN, hv, hm]
    have e2 : Two.uselT t l = [] := by simp [Two.uselT, e1]
    rw [e1, e2]
    (refine ret_enter (n := 32) Try.func41 rfl rfl rfl ?_)
    (repeat' (first | ((with_reducible refine isOps ?_); first | refine u_move rfl rfl rfl rfl rfl ?_ | refine u_assign rfl rfl rfl rfl rfl ?_ | (refine x_load rfl rfl rfl rfl rfl ?_; refine ⟨_, rfl, ?_⟩) | (refine u_cmp rfl rfl rfl rfl rfl rfl rfl (fun h => ?_) (fun h => ?_) <;> (dsimp only [cmpP] at h; (try (exfalso; omega)))) | refine u_gives rfl rfl rfl rfl rfl rfl (fun _ _ q => measured_bad t A cap l B c _ (ht.below q.below) (hs.below q.below) hf hfm hl hll hv hm) ?_ | refine u_extract rfl rfl rfl rfl rfl rfl ?_ | (refine x_store rfl rfl rfl rfl rfl ?_; refine And.intro rfl (And.intro (by first | decide | exact Nat.le_of_ble_eq_true rfl | (simp; omega)) ⟨_, rfl, ?_⟩)) | (refine u_alloc rfl rfl rfl rfl (fun b => ?_)) | (refine u_box rfl rfl rfl rfl rfl rfl (fun b => ?_))) | (with_reducible first | refine u_seq ?_ | refine u_region ?_ | refine u_nil ?_ | refine u_then_n ?_ | refine u_ret ?_ | refine u_then_r ?_) | ((with_reducible refine u_cond_t ?_ ?_); (· exact rfl))))
    exact u_done (by (exact ResL.cons (by exact Res1.tmp rfl) (ResL.cons (by exact Res1.tmp rfl) ResL.nil))) (none, 0) trivial rfl (fun _ h => sl_nil h)
  obtain ⟨s1, s2⟩ := left_same hv hm
  have h3 := fun W m hW (h : W.heap[m]? = some (.map (entsMe (KB.id l.length) l) l.length)) => left_any t A cap (KB.id l.length) l m W (ht.below hW) hv (msOk_all hm).1 (KB.id_ok _) h
  cases hb : rnB t l
  · have e1 : errN t l = 8 := by simp [errN, hv, hm, hb]
    have e2 : Two.uselT t l = [] := by simp [Two.uselT, e1]
    rw [e1, e2]
    simp only [s1, hb] at h3
    (refine ret_enter (n := 32) Try.func41 rfl rfl rfl ?_)
    (repeat' (first | ((with_reducible refine isOps ?_); first | refine u_move rfl rfl rfl rfl rfl ?_ | refine u_assign rfl rfl rfl rfl rfl ?_ | (refine x_load rfl rfl rfl rfl rfl ?_; refine ⟨_, rfl, ?_⟩) | (refine u_cmp rfl rfl rfl rfl rfl rfl rfl (fun h => ?_) (fun h => ?_) <;> (dsimp only [cmpP] at h; (try (exfalso; omega)))) | (refine u_call rfl rfl rfl rfl rfl rfl (fun _ _ q => measured_yes t A cap l B c _ (ht.below q.below) (hs.below q.below) (fun b o e => Nat.lt_of_lt_of_le (hB b o e) q.below.size) hf hfm hl hll hv hm) ?_; rintro mm -; dsimp only [List.cons_append, List.nil_append]) | refine u_newsl rfl rfl rfl rfl rfl rfl (fun _ _ q => h3 _ _ q.below (map_of q.own (by (repeat (first | exact Take.here _ _ | apply Take.there))))) (fun A' c' => ?_) | refine u_extract rfl rfl rfl rfl rfl rfl ?_ | refine u_not rfl rfl rfl rfl rfl ?_ | (refine x_store rfl rfl rfl rfl rfl ?_; refine And.intro rfl (And.intro (by first | decide | exact Nat.le_of_ble_eq_true rfl | (simp; omega)) ⟨_, rfl, ?_⟩)) | (refine u_alloc rfl rfl rfl rfl (fun b => ?_)) | (refine u_box rfl rfl rfl rfl rfl rfl (fun b => ?_))) | (with_reducible first | refine u_seq ?_ | refine u_region ?_ | refine u_nil ?_ | refine u_then_n ?_ | refine u_ret ?_ | refine u_skip ?_ | refine u_then_r ?_) | ((with_reducible refine u_cond_t ?_ ?_); (· exact rfl)) | ((with_reducible refine u_cond_f ?_ ?_); (· exact rfl))))
    exact u_done (by (exact ResL.cons (by exact Res1.tmp rfl) (ResL.cons (by exact Res1.tmp rfl) ResL.nil))) (none, 0) trivial rfl (fun _ h => sl_nil h)
  · have e1 : errN t l = 0 := by simp [errN, hv, hm, hb]
    have e2 : Two.uselT t l = picks (fun i m => Two.uselessP t l i m) l := by simp [Two.uselT, e1]
    rw [e1, e2]
    simp only [s1, s2, hb] at h3
    (refine ret_enter (n := 32) Try.func41 rfl rfl rfl ?_)
    (repeat' (first | ((with_reducible refine isOps ?_); first | refine u_move rfl rfl rfl rfl rfl ?_ | refine u_assign rfl rfl rfl rfl rfl ?_ | (refine x_load rfl rfl rfl rfl rfl ?_; refine ⟨_, rfl, ?_⟩) | (refine u_cmp rfl rfl rfl rfl rfl rfl rfl (fun h => ?_) (fun h => ?_) <;> (dsimp only [cmpP] at h; (try (exfalso; omega)))) | (refine u_call rfl rfl rfl rfl rfl rfl (fun _ _ q => measured_yes t A cap l B c _ (ht.below q.below) (hs.below q.below) (fun b o e => Nat.lt_of_lt_of_le (hB b o e) q.below.size) hf hfm hl hll hv hm) ?_; rintro mm -; dsimp only [List.cons_append, List.nil_append]) | refine u_newsl rfl rfl rfl rfl rfl rfl (fun _ _ q => h3 _ _ q.below (map_of q.own (by (repeat (first | exact Take.here _ _ | apply Take.there))))) (fun A' c' => ?_) | refine u_extract rfl rfl rfl rfl rfl rfl ?_ | refine u_not rfl rfl rfl rfl rfl ?_ | (refine x_store rfl rfl rfl rfl rfl ?_; refine And.intro rfl (And.intro (by first | decide | exact Nat.le_of_ble_eq_true rfl | (simp; omega)) ⟨_, rfl, ?_⟩)) | (refine u_alloc rfl rfl rfl rfl (fun b => ?_)) | (refine u_box rfl rfl rfl rfl rfl rfl (fun b => ?_)) | refine u_makeFunc rfl rfl rfl rfl rfl rfl ?_) | (with_reducible first | refine u_seq ?_ | refine u_region ?_ | refine u_nil ?_ | refine u_then_n ?_ | refine u_skip ?_) | ((with_reducible refine u_cond_f ?_ ?_); (· exact rfl))))
    rename_i b2 bv ba
    refine u_callF (Sta mm ba bv b A t.length cap A' c' (rnT t l) (KB.id l.length, l)) [] rfl rfl rfl rfl rfl rfl (by (repeat (first | exact Out.nil _ | (refine Out.cons (by (repeat (first | exact Take.here _ _ | apply Take.there))) ?_)))) (fun a W q => pickUse_any t A cap l B c hv hm mm ba bv b A' c' w.heap.size W (KB.id l.length, l) (arr_id l) q.below.size (Own.append.1 q.own).1 (ht.below (cut_below q.below)) (hs.below (cut_below q.below))) ?_
    rintro ⟨⟨kb2, ms2⟩, A9, c9⟩ -
    simp only [List.cons_append, List.nil_append, List.append_nil]
    (repeat' (first | ((with_reducible refine isOps ?_); first | refine u_assign rfl rfl rfl rfl rfl ?_) | (with_reducible first | refine u_nil ?_ | refine u_then_n ?_ | refine u_ret ?_)))
    exact u_done (by (exact ResL.cons (by exact Res1.tmp rfl) (ResL.cons (by exact Res1.tmp rfl) ResL.nil))) (A9, c9) trivial rfl (fun _ h => h.sub (by (repeat (first | exact Out.nil _ | (refine Out.cons (by (repeat (first | exact Take.here _ _ | apply Take.there))) ?_)))))
end Go.Proofs.Ytekjkaoibcfgfaa
