/- Ice: plans in memory, which are valid; a rink at work. -/
import Derived.Test.YtdigopgncfhiaaaDoorJ2
namespace Go.Proofs.YtdigopgncfhiaaaDoor
open Go.RowKit
set_option linter.unusedSimpArgs false
set_option linter.unusedVariables false
set_option maxRecDepth 20000

/-- a slice of numbers among others -/
structure Sli where
  A : Option Addr
  xs : List Int
  c : Nat
instance : Inhabited Sli := ⟨⟨none, [], 0⟩⟩
def encSli (s : Sli) : List Value := [.slice s.A s.xs.length s.c]
instance : EncI encSli 1 := ⟨fun _ => rfl, fun s v hv => by simp [encSli] at hv; subst hv; rfl⟩
structure PlanAt (w : World) (P : Option Addr) (pl : List Sli) : Prop where
  p : SlAt encSli 1 w P pl
  rows : ∀ s ∈ pl, SlAt encI 1 w s.A s.xs
theorem PlanAt.below {w W : World} {P : Option Addr} {pl : List Sli} (h : PlanAt w P pl) (hb : Below w.heap.size w W) : PlanAt W P pl := ⟨h.p.below hb, fun s hs => (h.rows s hs).below hb⟩
def risingB (l : List Int) : Bool := (List.range (l.length - 1)).all fun k => decide (l.getD k 0 < l.getD (k + 1) 0)
def rowOk (c : Cov) (u : Hour) (s : Sli) : Bool := decide ((s.xs.length : Int) ≤ u.crew) && (decide (s.xs.length = 0) || u.cold) && s.xs.all (inB 0 (c.beds.length - 1)) && risingB s.xs
def planOk (c : Cov) (pl : List Sli) : Bool := decide (pl.length = c.hours.length) && (List.range pl.length).all fun i => rowOk c (c.hours.getD i default) (pl.getD i default)
theorem rising_iff {l : List Int} : risingB l = true ↔ ∀ k, k + 1 < l.length → l.getD k 0 < l.getD (k + 1) 0 := by
  unfold risingB
  rw [List.all_eq_true]
  constructor
  · intro h k hk; simpa using h k (List.mem_range.2 (by omega))
  · intro h k hk; simpa using h k (by have := List.mem_range.1 hk; omega)
theorem rising_no {l : List Int} {k : Nat} (hk : k + 1 < l.length) (h : ¬ l.getD k 0 < l.getD (k + 1) 0) : risingB l = false := by
  cases hr : risingB l with
  | false => rfl
  | true => exact absurd (rising_iff.1 hr k hk) h
theorem planOk_iff {c : Cov} {pl : List Sli} : planOk c pl = true ↔ pl.length = c.hours.length ∧ ∀ (i : Nat) (u : Hour) (s : Sli), c.hours[i]? = some u → pl[i]? = some s → rowOk c u s = true := by
  unfold planOk
  rw [Bool.and_eq_true, decide_eq_true_eq, List.all_eq_true]
  constructor
  · rintro ⟨h1, h2⟩
    refine ⟨h1, fun i u s hu hs => ?_⟩
    have := h2 i (List.mem_range.2 (List.getElem?_eq_some_iff.1 hs).1)
    simpa [List.getD_eq_getElem?_getD, hu, hs] using this
  · rintro ⟨h1, h2⟩
    refine ⟨h1, fun i hi => ?_⟩
    have hi := List.mem_range.1 hi
    refine h2 i _ _ ?_ ?_
    · rw [List.getD_eq_getElem?_getD, List.getElem?_eq_getElem (show i < c.hours.length by omega)]; rfl
    · rw [List.getD_eq_getElem?_getD, List.getElem?_eq_getElem hi]; rfl
theorem planOk_no {c : Cov} {pl : List Sli} {i : Nat} {u : Hour} {s : Sli} (hu : c.hours[i]? = some u) (hs : pl[i]? = some s) (h : rowOk c u s = false) : planOk c pl = false := by
  cases hp : planOk c pl with
  | false => rfl
  | true => have := (planOk_iff.1 hp).2 i u s hu hs; rw [h] at this; cases this
theorem getD_of {α : Type} {l : List α} {i : Nat} {d x : α} (h : l[i]? = some x) : l.getD i d = x := by rw [List.getD_eq_getElem?_getD, h]; rfl

set_option maxHeartbeats 4000000 in
theorem iplanned_any (c : Cov) (A : Option Addr) (ca : Nat) (B : Option Addr) (cb : Nat) (C : Option Addr) (cc g : Nat) (pl : List Sli) (P : Option Addr) (cp : Nat) (w : World) (hr : InC w g 0 (cellsCov c A ca B cb C cc)) (h0 : CovAt w c A B C) (hp : PlanAt w P pl) (hs : Small c) (hl : pl.length ≤ 12) (hrl : ∀ s ∈ pl, s.xs.length ≤ 20) :
    Gv Tryd.prog 107 [.pointer (some ⟨g, 0, none⟩), .slice P pl.length cp] w (.bool (planOk c pl)) := by
  have h3 := hs.t; have h4 := hs.b; have h5 := hs.h
  have hh := h0.h; have hpp := hp.p
  unfold cellsCov at hr
  unfold Gv
  (refine ret_enter (n := 83) Tryd.func107 rfl rfl rfl ?_)
  (repeat' (first | ((with_reducible refine isOps ?_); first | refine u_move rfl rfl rfl rfl rfl ?_ | refine u_assign rfl rfl rfl rfl rfl ?_ | (refine x_load rfl rfl rfl rfl rfl ?_; refine ⟨_, rfl, ?_⟩) | refine u_field rfl rfl rfl rfl rfl ?_ | refine u_pick rfl rfl rfl rfl rfl rfl ?_ | refine u_not_wanted rfl rfl rfl ?_ | refine u_not_wanted0 rfl rfl ?_ | (refine u_cmp rfl rfl rfl rfl rfl rfl rfl (fun h => ?_) (fun h => ?_) <;> (dsimp only [cmpP] at h; (try (exfalso; omega)))) | refine u_not rfl rfl rfl rfl rfl ?_ | refine u_add1 rfl rfl rfl rfl rfl rfl (by omega) ?_ | refine u_add rfl rfl rfl rfl rfl rfl (IntWalk.i64_in _ (by omega)) ?_ | refine u_sub rfl rfl rfl rfl rfl rfl (IntWalk.i64_in _ (by omega)) ?_ | refine u_index rfl rfl rfl rfl rfl rfl rfl (by omega) ?_ | refine u_indexA rfl rfl rfl rfl rfl rfl rfl (by first | decide | omega) ?_ | refine u_len rfl rfl rfl rfl rfl ?_ | refine u_nilCheck rfl rfl rfl rfl rfl ?_) | (with_reducible first | refine u_seq ?_ | refine u_region ?_ | refine u_nil ?_ | refine u_then_n ?_ | refine u_ret ?_ | refine u_skip ?_ | refine u_then_r ?_ | refine u_end ?_ | refine u_block ?_ | refine u_exit ?_ | refine u_in_n ?_ | refine u_in_r ?_ | refine u_in_same ?_ | refine u_then_e ?_) | ((with_reducible refine u_in_other ?_ ?_); (· exact rfl)) | ((with_reducible refine u_cond_t ?_ ?_); (· exact rfl)) | ((with_reducible refine u_cond_f ?_ ?_); (· exact rfl))))
  · exact u_done (by (exact ResL.cons (by exact Res1.tmp rfl) ResL.nil)) () trivial (by rw [show planOk c pl = false from by unfold planOk; simp; omega]; rfl) (fun _ h => h.sub (by (repeat (first | exact Out.nil _ | (refine Out.cons (by (repeat (first | exact Take.here _ _ | apply Take.there))) ?_)))))
  have hlen : pl.length = c.hours.length := by omega
  refine u_loopP (ι := Nat) [0, 17, 18] rfl (fun i => i ≤ pl.length ∧ ∀ (j : Nat) (u : Hour) (s : Sli), j < i → c.hours[j]? = some u → pl[j]? = some s → rowOk c u s = true) (fun i => [(19, .int .i64 (i : Int))]) (fun _ => []) (fun i => pl.length - i) 0 ⟨Nat.zero_le _, fun j u s h => by omega⟩ (by (first | exact fun _ _ h => lk_nil h | (repeat (first | exact (fun _ _ h => lk_nil h) | (refine lk_sub rfl ?_))))) (by (repeat (first | exact Out.nil _ | (refine Out.cons (by (repeat (first | exact Take.here _ _ | apply Take.there))) ?_)))) ?_
  rintro i ⟨hi, hall⟩
  simp only [zipR, List.cons_append, List.nil_append]
  by_cases hlt : i < pl.length
  · obtain ⟨s, hsi⟩ : ∃ s, pl[i]? = some s := ⟨_, List.getElem?_eq_getElem hlt⟩
    obtain ⟨u, hui⟩ : ∃ u, c.hours[i]? = some u := ⟨_, List.getElem?_eq_getElem (by omega)⟩
    have hsm := List.mem_of_getElem? hsi
    have hrow := hp.rows s hsm
    have hsl := hrl s hsm
    obtain ⟨bb, o, rfl, hblt, hc⟩ := hpp.at_ hlt
    have : InS w bb o encSli 1 pl := ⟨hpp⟩
    have : GetI pl i s := ⟨hsi⟩
    obtain ⟨bc, oc, rfl, hblt2, hc2⟩ := hh.at_ (show i < c.hours.length by omega)
    have : InS w bc oc encHour 5 c.hours := ⟨hh⟩
    have : GetI c.hours i u := ⟨hui⟩
    have hin := fun W (hW : Below w.heap.size w W) => iin_all 0 ((c.beds.length : Int) - 1) s.xs s.A s.c W (hrow.below hW) (by omega)
    have hno := fun h => planOk_no hui hsi h
    have hyes := fun (h : rowOk c u s = true) (j : Nat) u' s' (hj : j < i + 1) (h1 : c.hours[j]? = some u') (h2 : pl[j]? = some s') => (show rowOk c u' s' = true from by
      by_cases e : j = i
      · subst e; rw [hui] at h1; rw [hsi] at h2; cases h1; cases h2; exact h
      · exact hall j u' s' (by omega) h1 h2)
    obtain ⟨melt, runs, crew, cold⟩ := u
    have hro : rowOk c ⟨melt, runs, crew, cold⟩ s = (decide ((s.xs.length : Int) ≤ crew) && (decide (s.xs.length = 0) || cold) && s.xs.all (inB 0 (c.beds.length - 1)) && risingB s.xs) := rfl
    generalize hall1 : s.xs.all (inB 0 ((c.beds.length : Int) - 1)) = al at *
    cases cold
    all_goals
      (repeat' (first | ((with_reducible refine isOps ?_); first | refine u_move rfl rfl rfl rfl rfl ?_ | refine u_assign rfl rfl rfl rfl rfl ?_ | (refine x_load rfl rfl rfl rfl rfl ?_; refine ⟨_, rfl, ?_⟩) | refine u_field rfl rfl rfl rfl rfl ?_ | refine u_pick rfl rfl rfl rfl rfl rfl ?_ | refine u_not_wanted rfl rfl rfl ?_ | refine u_not_wanted0 rfl rfl ?_ | (refine u_cmp rfl rfl rfl rfl rfl rfl rfl (fun h => ?_) (fun h => ?_) <;> (dsimp only [cmpP] at h; (try (exfalso; omega)))) | (refine u_givesB rfl rfl rfl rfl rfl rfl (fun _ _ q => hin _ q.below) (fun h => ?_) (fun h => ?_) <;> (try (exfalso; omega))) | refine u_not rfl rfl rfl rfl rfl ?_ | refine u_add1 rfl rfl rfl rfl rfl rfl (by omega) ?_ | refine u_add rfl rfl rfl rfl rfl rfl (IntWalk.i64_in _ (by omega)) ?_ | refine u_sub rfl rfl rfl rfl rfl rfl (IntWalk.i64_in _ (by omega)) ?_ | refine u_index rfl rfl rfl rfl rfl rfl rfl (by omega) ?_ | refine u_indexA rfl rfl rfl rfl rfl rfl rfl (by first | decide | omega) ?_ | refine u_len rfl rfl rfl rfl rfl ?_ | refine u_nilCheck rfl rfl rfl rfl rfl ?_) | (with_reducible first | refine u_seq ?_ | refine u_region ?_ | refine u_nil ?_ | refine u_then_n ?_ | refine u_ret ?_ | refine u_skip ?_ | refine u_then_r ?_ | refine u_end ?_ | refine u_block ?_ | refine u_exit ?_ | refine u_in_n ?_ | refine u_in_r ?_ | refine u_in_same ?_ | refine u_then_e ?_) | ((with_reducible refine u_in_other ?_ ?_); (· exact rfl)) | ((with_reducible refine u_cond_t ?_ ?_); (· exact rfl)) | ((with_reducible refine u_cond_f ?_ ?_); (· exact rfl))))
      all_goals first | (refine u_done (by (exact ResL.cons (by exact Res1.tmp rfl) ResL.nil)) () trivial ?_ (fun _ h => h.sub (by (repeat (first | exact Out.nil _ | (refine Out.cons (by (repeat (first | exact Take.here _ _ | apply Take.there))) ?_))))); refine congrArg Value.bool (hno ?_); rw [hro]; refine Bool.eq_false_iff.2 (fun h9 => ?_); simp only [Bool.and_eq_true, Bool.or_eq_true, decide_eq_true_eq, Bool.false_eq_true, or_false] at h9; first | omega | (simp_all; done)) | skip
      all_goals
        refine u_loopP (ι := Nat) [0, 6, 17, 18, 19, 67] rfl (fun k => k ≤ s.xs.length ∧ ∀ k', k' < k → k' + 1 < s.xs.length → s.xs.getD k' 0 < s.xs.getD (k' + 1) 0) (fun k => [(68, .int .i64 (k : Int))]) (fun _ => []) (fun k => s.xs.length - k) 0 ⟨Nat.zero_le _, fun k h => by omega⟩ (by (first | exact fun _ _ h => lk_nil h | (repeat (first | exact (fun _ _ h => lk_nil h) | (refine lk_sub rfl ?_))))) (by (repeat (first | exact Out.nil _ | (refine Out.cons (by (repeat (first | exact Take.here _ _ | apply Take.there))) ?_)))) ?_
        rintro k ⟨hk, hris⟩
        simp only [zipR, List.cons_append, List.nil_append]
        by_cases hk1 : k + 1 < s.xs.length
        · obtain ⟨x, hx⟩ : ∃ x, s.xs[k]? = some x := ⟨_, List.getElem?_eq_getElem (by omega)⟩
          obtain ⟨y, hy⟩ : ∃ y, s.xs[k + 1]? = some y := ⟨_, List.getElem?_eq_getElem hk1⟩
          have e1 := getD_of (d := 0) hx
          have e2 := getD_of (d := 0) hy
          obtain ⟨br, orr, hA, hbr, hcr⟩ := hrow.at_ hk1
          have : InS w br orr encI 1 s.xs := ⟨hA ▸ hrow⟩
          rw [hA]
          have : GetI s.xs k x := ⟨hx⟩
          have : GetI s.xs (k + 1) y := ⟨hy⟩
          (repeat' (first | ((with_reducible refine isOps ?_); first | refine u_move rfl rfl rfl rfl rfl ?_ | refine u_assign rfl rfl rfl rfl rfl ?_ | (refine x_load rfl rfl rfl rfl rfl ?_; refine ⟨_, rfl, ?_⟩) | refine u_field rfl rfl rfl rfl rfl ?_ | refine u_pick rfl rfl rfl rfl rfl rfl ?_ | refine u_not_wanted rfl rfl rfl ?_ | refine u_not_wanted0 rfl rfl ?_ | (refine u_cmp rfl rfl rfl rfl rfl rfl rfl (fun h => ?_) (fun h => ?_) <;> (dsimp only [cmpP] at h; (try (exfalso; omega)))) | refine u_not rfl rfl rfl rfl rfl ?_ | refine u_add1 rfl rfl rfl rfl rfl rfl (by omega) ?_ | refine u_add rfl rfl rfl rfl rfl rfl (IntWalk.i64_in _ (by omega)) ?_ | refine u_sub rfl rfl rfl rfl rfl rfl (IntWalk.i64_in _ (by omega)) ?_ | refine u_index rfl rfl rfl rfl rfl rfl rfl (by omega) ?_ | refine u_indexA rfl rfl rfl rfl rfl rfl rfl (by first | decide | omega) ?_ | refine u_len rfl rfl rfl rfl rfl ?_ | refine u_nilCheck rfl rfl rfl rfl rfl ?_) | (with_reducible first | refine u_seq ?_ | refine u_region ?_ | refine u_nil ?_ | refine u_then_n ?_ | refine u_ret ?_ | refine u_skip ?_ | refine u_then_r ?_ | refine u_end ?_ | refine u_block ?_ | refine u_exit ?_ | refine u_in_n ?_ | refine u_in_r ?_ | refine u_in_same ?_ | refine u_then_e ?_) | ((with_reducible refine u_in_other ?_ ?_); (· exact rfl)) | ((with_reducible refine u_cond_t ?_ ?_); (· exact rfl)) | ((with_reducible refine u_cond_f ?_ ?_); (· exact rfl))))
          all_goals (refine u_chain (by kernel_rfl) [[], [false], [true, true], [true, true, true], [false, false, false, false], [false, false, false, false, false], [true, false, false, false, false, false], [true, true, true, false, false, false, false], [true, true, true, true, false, false, false, false], [true, true, true, true, true, true, true, true, true]] (by kernel_rfl) (by kernel_rfl) (by kernel_rfl) ?_)
          all_goals (repeat' (first | (((with_reducible refine c_go ?_ ?_); (· exact rfl); refine ⟨_, fun G => (by (try simp only [fltT, entsT, List.nil_append, List.cons_append]); rfl), ?_⟩); first | refine c_val _ (fun _ => e_move rfl rfl) (fun _ => rfl) rfl (by first | exact fun _ _ _ => rfl | (intro G G' h; simp (decide := true) only [h])) ?_ | refine c_val _ (fun _ => e_load' rfl rfl (by exact rfl)) (fun _ => rfl) rfl (by first | exact fun _ _ _ => rfl | (intro G G' h; simp (decide := true) only [h])) ?_ | (refine c_cmp rfl rfl (fun _ => rfl) rfl (fun _ => rfl) (fun _ => rfl) (fun h => ?_) (fun h => ?_) <;> (dsimp only [cmpP] at h; (try (exfalso; omega)))) | refine c_val _ (fun _ => e_index (I := k) rfl rfl rfl rfl (by omega)) (fun _ => rfl) rfl (by exact fun _ _ _ => rfl) ?_ | refine c_val _ (fun _ => e_index (I := k + 1) rfl rfl rfl rfl (by omega)) (fun _ => rfl) rfl (by exact fun _ _ _ => rfl) ?_ | refine c_val _ (fun _ => e_add1 rfl rfl rfl (by omega)) (fun _ => rfl) rfl (by first | exact fun _ _ _ => rfl | (intro G G' h; simp (decide := true) only [h])) ?_ | refine c_val _ (fun _ => e_add rfl rfl rfl (IntWalk.i64_in _ (by omega))) (fun _ => rfl) rfl (by first | exact fun _ _ _ => rfl | (intro G G' h; simp (decide := true) only [h])) ?_ | refine c_val _ (fun _ => e_index rfl rfl rfl rfl (by omega)) (fun _ => rfl) rfl (by first | exact fun _ _ _ => rfl | (intro G G' h; simp (decide := true) only [h])) ?_ | refine c_val _ (fun _ => e_indexA rfl rfl rfl rfl (by first | decide | omega)) (fun _ => rfl) rfl (by first | exact fun _ _ _ => rfl | (intro G G' h; simp (decide := true) only [h])) ?_) | ((with_reducible refine c_tail ?_ ?_); (· exact rfl)) | (with_reducible refine c_nil ?_)))
          all_goals ((intro G; simp only [regsT, entsT, Pend.at_none, List.nil_append, List.cons_append]); (repeat' (first | ((with_reducible refine isOps ?_); first | refine u_move rfl rfl rfl rfl rfl ?_ | refine u_assign rfl rfl rfl rfl rfl ?_ | (refine x_load rfl rfl rfl rfl rfl ?_; refine ⟨_, rfl, ?_⟩) | refine u_field rfl rfl rfl rfl rfl ?_ | refine u_pick rfl rfl rfl rfl rfl rfl ?_ | refine u_not_wanted rfl rfl rfl ?_ | refine u_not_wanted0 rfl rfl ?_ | (refine u_cmp rfl rfl rfl rfl rfl rfl rfl (fun h => ?_) (fun h => ?_) <;> (dsimp only [cmpP] at h; (try (exfalso; omega)))) | refine u_not rfl rfl rfl rfl rfl ?_ | refine u_add1 rfl rfl rfl rfl rfl rfl (by omega) ?_ | refine u_add rfl rfl rfl rfl rfl rfl (IntWalk.i64_in _ (by omega)) ?_ | refine u_sub rfl rfl rfl rfl rfl rfl (IntWalk.i64_in _ (by omega)) ?_ | refine u_index rfl rfl rfl rfl rfl rfl rfl (by omega) ?_ | refine u_indexA rfl rfl rfl rfl rfl rfl rfl (by first | decide | omega) ?_ | refine u_len rfl rfl rfl rfl rfl ?_ | refine u_nilCheck rfl rfl rfl rfl rfl ?_) | (with_reducible first | refine u_seq ?_ | refine u_region ?_ | refine u_nil ?_ | refine u_then_n ?_ | refine u_ret ?_ | refine u_skip ?_ | refine u_then_r ?_ | refine u_end ?_ | refine u_block ?_ | refine u_exit ?_ | refine u_in_n ?_ | refine u_in_r ?_ | refine u_in_same ?_ | refine u_then_e ?_) | ((with_reducible refine u_in_other ?_ ?_); (· exact rfl)) | ((with_reducible refine u_cond_t ?_ ?_); (· exact rfl)) | ((with_reducible refine u_cond_f ?_ ?_); (· exact rfl)))))
          all_goals first | (refine u_done (by (exact ResL.cons (by exact Res1.tmp rfl) ResL.nil)) () trivial ?_ (fun _ h => h.sub (by (repeat (first | exact Out.nil _ | (refine Out.cons (by (repeat (first | exact Take.here _ _ | apply Take.there))) ?_))))); refine congrArg Value.bool (hno ?_); rw [hro, rising_no hk1 (by rw [e1, e2]; omega), Bool.and_false]) | skip
          all_goals exact u_again (k + 1) ⟨by omega, fun k' h1 h2 => by
              by_cases e : k' = k
              · subst e; rw [e1, e2]; omega
              · exact hris k' (by omega) h2⟩ (by omega) (by (first | exact fun _ _ h => lk_nil h | (repeat (first | exact (fun _ _ h => lk_nil h) | (refine lk_sub rfl ?_))))) (by (repeat (first | exact Out.nil _ | (refine Out.cons (by (repeat (first | exact Take.here _ _ | apply Take.there))) ?_))))
        · (repeat' (first | ((with_reducible refine isOps ?_); first | refine u_move rfl rfl rfl rfl rfl ?_ | refine u_assign rfl rfl rfl rfl rfl ?_ | (refine x_load rfl rfl rfl rfl rfl ?_; refine ⟨_, rfl, ?_⟩) | refine u_field rfl rfl rfl rfl rfl ?_ | refine u_pick rfl rfl rfl rfl rfl rfl ?_ | refine u_not_wanted rfl rfl rfl ?_ | refine u_not_wanted0 rfl rfl ?_ | (refine u_cmp rfl rfl rfl rfl rfl rfl rfl (fun h => ?_) (fun h => ?_) <;> (dsimp only [cmpP] at h; (try (exfalso; omega)))) | refine u_not rfl rfl rfl rfl rfl ?_ | refine u_add1 rfl rfl rfl rfl rfl rfl (by omega) ?_ | refine u_add rfl rfl rfl rfl rfl rfl (IntWalk.i64_in _ (by omega)) ?_ | refine u_sub rfl rfl rfl rfl rfl rfl (IntWalk.i64_in _ (by omega)) ?_ | refine u_index rfl rfl rfl rfl rfl rfl rfl (by omega) ?_ | refine u_indexA rfl rfl rfl rfl rfl rfl rfl (by first | decide | omega) ?_ | refine u_len rfl rfl rfl rfl rfl ?_ | refine u_nilCheck rfl rfl rfl rfl rfl ?_) | (with_reducible first | refine u_seq ?_ | refine u_region ?_ | refine u_nil ?_ | refine u_then_n ?_ | refine u_ret ?_ | refine u_skip ?_ | refine u_then_r ?_ | refine u_end ?_ | refine u_block ?_ | refine u_exit ?_ | refine u_in_n ?_ | refine u_in_r ?_ | refine u_in_same ?_ | refine u_then_e ?_) | ((with_reducible refine u_in_other ?_ ?_); (· exact rfl)) | ((with_reducible refine u_cond_t ?_ ?_); (· exact rfl)) | ((with_reducible refine u_cond_f ?_ ?_); (· exact rfl))))
          have hr9 : risingB s.xs = true := rising_iff.2 (fun k' h => hris k' (by omega) h)
          exact u_again (i + 1) ⟨by omega, hyes (by rw [hro, hr9]; simp_all)⟩ (by omega) (by (first | exact fun _ _ h => lk_nil h | (repeat (first | exact (fun _ _ h => lk_nil h) | (refine lk_sub rfl ?_))))) (by (repeat (first | exact Out.nil _ | (refine Out.cons (by (repeat (first | exact Take.here _ _ | apply Take.there))) ?_))))
  · obtain rfl : i = pl.length := by omega
    (repeat' (first | ((with_reducible refine isOps ?_); first | refine u_move rfl rfl rfl rfl rfl ?_ | refine u_assign rfl rfl rfl rfl rfl ?_ | (refine x_load rfl rfl rfl rfl rfl ?_; refine ⟨_, rfl, ?_⟩) | refine u_field rfl rfl rfl rfl rfl ?_ | refine u_pick rfl rfl rfl rfl rfl rfl ?_ | refine u_not_wanted rfl rfl rfl ?_ | refine u_not_wanted0 rfl rfl ?_ | (refine u_cmp rfl rfl rfl rfl rfl rfl rfl (fun h => ?_) (fun h => ?_) <;> (dsimp only [cmpP] at h; (try (exfalso; omega)))) | refine u_not rfl rfl rfl rfl rfl ?_ | refine u_add1 rfl rfl rfl rfl rfl rfl (by omega) ?_ | refine u_add rfl rfl rfl rfl rfl rfl (IntWalk.i64_in _ (by omega)) ?_ | refine u_sub rfl rfl rfl rfl rfl rfl (IntWalk.i64_in _ (by omega)) ?_ | refine u_index rfl rfl rfl rfl rfl rfl rfl (by omega) ?_ | refine u_indexA rfl rfl rfl rfl rfl rfl rfl (by first | decide | omega) ?_ | refine u_len rfl rfl rfl rfl rfl ?_ | refine u_nilCheck rfl rfl rfl rfl rfl ?_) | (with_reducible first | refine u_seq ?_ | refine u_region ?_ | refine u_nil ?_ | refine u_then_n ?_ | refine u_ret ?_ | refine u_skip ?_ | refine u_then_r ?_ | refine u_end ?_ | refine u_block ?_ | refine u_exit ?_ | refine u_in_n ?_ | refine u_in_r ?_ | refine u_in_same ?_ | refine u_then_e ?_) | ((with_reducible refine u_in_other ?_ ?_); (· exact rfl)) | ((with_reducible refine u_cond_t ?_ ?_); (· exact rfl)) | ((with_reducible refine u_cond_f ?_ ?_); (· exact rfl))))
    exact u_done (by (exact ResL.cons (by exact Res1.tmp rfl) ResL.nil)) () trivial (by rw [planOk_iff.2 ⟨hlen, fun j u s h1 h2 => hall j u s (List.getElem?_eq_some_iff.1 h2).1 h1 h2⟩]; rfl) (fun _ h => h.sub (by (repeat (first | exact Out.nil _ | (refine Out.cons (by (repeat (first | exact Take.here _ _ | apply Take.there))) ?_)))))

end Go.Proofs.YtdigopgncfhiaaaDoor
