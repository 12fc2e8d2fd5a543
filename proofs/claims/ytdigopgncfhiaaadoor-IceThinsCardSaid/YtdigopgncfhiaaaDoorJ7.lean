/- Ice: how thick ice is, by the reference. -/
import Derived.Test.YtdigopgncfhiaaaDoorJ6
namespace Go.Proofs.YtdigopgncfhiaaaDoor
open Go.RowKit
set_option linter.unusedSimpArgs false
set_option linter.unusedVariables false
set_option maxRecDepth 20000

def thinned (t l : Sp) : Sp := ⟨max 0 (t.lo - l.hi), max 0 (t.hi - l.lo)⟩
def layered (c : Cov) (on : Bool) (t : Sp) : Sp := if on then ⟨t.lo + c.layer.lo, t.hi + c.layer.hi⟩ else t
/-- how thick the stretch i, of bed z, is at the beginning of an hour -/
def thickN (c : Cov) (pl : List Sli) (z : Bed) (i : Int) : Nat → Sp
  | 0 => z.thick
  | h + 1 => layered c ((pl.getD h default).xs.contains i) (thinned (thickN c pl z i h) (lossC c z (c.hours.getD h default)))
theorem thick_in {c : Cov} {pl : List Sli} {z : Bed} {i : Int} (hf : Fine c) (hz : z ∈ c.beds) : ∀ h, h ≤ c.hours.length → 0 ≤ (thickN c pl z i h).lo ∧ (thickN c pl z i h).lo ≤ 2000 + 100 * h ∧ 0 ≤ (thickN c pl z i h).hi ∧ (thickN c pl z i h).hi ≤ 2000 + 100 * h
  | 0, _ => by
    have := hf.bed z hz
    simp only [bedOk, Bool.and_eq_true, knownB_iff] at this
    simp only [thickN]; omega
  | h + 1, hl => by
    have ih := thick_in (pl := pl) (i := i) hf hz h (by omega)
    obtain ⟨u, hu⟩ : ∃ u, c.hours[h]? = some u := ⟨_, List.getElem?_eq_getElem (by omega)⟩
    have l4 := lossC_in hf hz (List.mem_of_getElem? hu)
    have hl := hf.layer
    simp only [knownB_iff] at hl
    simp only [thickN, getD_of hu, layered, thinned]
    split <;> simp only <;> omega
set_option maxHeartbeats 2000000 in
theorem rthick2_any (c : Cov) (A : Option Addr) (ca : Nat) (B : Option Addr) (cb : Nat) (C : Option Addr) (cc : Nat) (pl : List Sli) (P : Option Addr) (cp i n : Nat) (z : Bed) (w : World) (h : CovAt w c A B C) (hs : Small c) (hf : Fine c) (hp : PlanAt w P pl) (hrl : ∀ s ∈ pl, s.xs.length ≤ 20) (hpl : pl.length = c.hours.length) (hz : c.beds[i]? = some z) (hn : n ≤ c.hours.length) :
    Gv Tryd.prog 70 [vCov c A ca B cb C cc, .slice P pl.length cp, .int .i64 (i : Int), .int .i64 (n : Int)] w (vSp (thickN c pl z i n)) := by
  have h4 := hs.b; have h5 := hs.h
  have hb := h.b; have hpp := hp.p
  have hzm := List.mem_of_getElem? hz
  have hi := (List.getElem?_eq_some_iff.1 hz).1
  have hlay := hf.layer
  simp only [knownB_iff] at hlay
  have hL := fun W (hW : Below w.heap.size w W) j u (hu : c.hours[j]? = some u) => Two.rloss2_any c A ca B cb C cc i j z u W (h.below hW) hs hf hz hu
  obtain ⟨bb, o, rfl, hblt, hc⟩ := hb.at_ hi
  have : InS w bb o encBed 3 c.beds := ⟨hb⟩
  have : GetI c.beds i z := ⟨hz⟩
  unfold vSp vCov at hL
  unfold Gv vCov
  unfold cellsCov at hL ⊢
  (refine ret_enter (n := 60) Tryd.func70 rfl rfl rfl ?_)
  (repeat' (first | ((with_reducible refine isOps ?_); first | refine u_move rfl rfl rfl rfl rfl ?_ | refine u_assign rfl rfl rfl rfl rfl ?_ | (refine x_load rfl rfl rfl rfl rfl ?_; refine ⟨_, rfl, ?_⟩) | refine u_field rfl rfl rfl rfl rfl ?_ | (refine u_cmp rfl rfl rfl rfl rfl rfl rfl (fun h => ?_) (fun h => ?_) <;> (dsimp only [cmpP] at h; (try (exfalso; omega)))) | refine u_index (I := i) rfl rfl rfl rfl rfl rfl rfl (by omega) ?_ | refine u_add1 rfl rfl rfl rfl rfl rfl (by omega) ?_ | refine u_add rfl rfl rfl rfl rfl rfl (IntWalk.i64_in _ (by omega)) ?_ | refine u_sub rfl rfl rfl rfl rfl rfl (IntWalk.i64_in _ (by omega)) ?_ | refine u_index rfl rfl rfl rfl rfl rfl rfl (by omega) ?_ | refine u_indexA rfl rfl rfl rfl rfl rfl rfl (by first | decide | omega) ?_ | (refine x_store rfl rfl rfl rfl rfl ?_; refine And.intro rfl (And.intro (by first | decide | exact Nat.le_of_ble_eq_true rfl | (simp; omega)) ⟨_, rfl, ?_⟩)) | (refine u_alloc rfl rfl rfl rfl (fun b => ?_)) | (refine u_box rfl rfl rfl rfl rfl rfl (fun b => ?_)) | (refine x_build rfl rfl rfl rfl rfl ?_; refine ⟨_, rfl, ?_⟩) | refine u_max rfl rfl rfl rfl rfl rfl ?_) | (with_reducible first | refine u_seq ?_ | refine u_region ?_ | refine u_nil ?_ | refine u_then_n ?_ | refine u_ret ?_ | refine u_skip ?_ | refine u_then_r ?_ | refine u_end ?_ | refine u_block ?_ | refine u_exit ?_ | refine u_in_n ?_ | refine u_in_r ?_ | refine u_in_same ?_ | refine u_then_e ?_) | ((with_reducible refine u_in_other ?_ ?_); (· exact rfl)) | ((with_reducible refine u_cond_t ?_ ?_); (· exact rfl)) | ((with_reducible refine u_cond_f ?_ ?_); (· exact rfl))))
  rename_i bx br
  refine u_loopP (ι := Nat) [1, 2, 3, 4, 8, 9] rfl (fun k => k ≤ n) (fun k => [(10, .int .i64 (k : Int))]) (fun k => [.blk b (encSp (thickN c pl z i k)), .blk br [.int .i64 0, .int .i64 0], .blk bx (cellsCov c A ca (some ⟨bb, o, none⟩) cb C cc)]) (fun k => n - k) 0 (Nat.zero_le _) (by (first | exact fun _ _ h => lk_nil h | (repeat (first | exact (fun _ _ h => lk_nil h) | (refine lk_sub rfl ?_))))) (by (repeat (first | exact Out.nil _ | (refine Out.cons (by (repeat (first | exact Take.here _ _ | apply Take.there))) ?_)))) ?_
  rintro k hk
  simp only [zipR, List.cons_append, List.nil_append]
  unfold cellsCov
  by_cases hlt : k < n
  · obtain ⟨u, hu⟩ : ∃ u, c.hours[k]? = some u := ⟨_, List.getElem?_eq_getElem (by omega)⟩
    obtain ⟨s, hsk⟩ : ∃ s, pl[k]? = some s := ⟨_, List.getElem?_eq_getElem (by omega)⟩
    have hsm := List.mem_of_getElem? hsk
    have hrow := hp.rows s hsm
    have hsl := hrl s hsm
    have hin := thick_in (pl := pl) (i := i) hf hzm k (by omega)
    have hlin := lossC_in hf hzm (List.mem_of_getElem? hu)
    have e1 : thickN c pl z i (k + 1) = layered c (s.xs.contains (i : Int)) (thinned (thickN c pl z i k) (lossC c z u)) := by simp only [thickN, getD_of hu, getD_of hsk]
    generalize thickN c pl z i k = t at *
    have hL := fun W hW => hL W hW k u hu
    generalize lossC c z u = l at *
    obtain ⟨sA, xs, sc⟩ := s
    simp only at hrow hsl e1
    have hH := fun W (hW : Below w.heap.size w W) => rhas_any xs (i : Int) sA sc W (hrow.below hW) (by omega)
    obtain ⟨b2, o2, rfl, hblt2, hc2⟩ := hpp.at_ (show k < pl.length by omega)
    have : InS w b2 o2 encSli 1 pl := ⟨hpp⟩
    have : GetI pl k ⟨sA, xs, sc⟩ := ⟨hsk⟩
    generalize xs.contains (i : Int) = on at *
    unfold encSp
    (repeat' (first | ((with_reducible refine isOps ?_); first | refine u_move rfl rfl rfl rfl rfl ?_ | refine u_assign rfl rfl rfl rfl rfl ?_ | (refine x_load rfl rfl rfl rfl rfl ?_; refine ⟨_, rfl, ?_⟩) | refine u_field rfl rfl rfl rfl rfl ?_ | (refine u_cmp rfl rfl rfl rfl rfl rfl rfl (fun h => ?_) (fun h => ?_) <;> (dsimp only [cmpP] at h; (try (exfalso; omega)))) | refine u_gives rfl rfl rfl rfl rfl rfl (fun _ _ q => hL _ q.below) ?_ | (refine u_givesB rfl rfl rfl rfl rfl rfl (fun _ _ q => hH _ q.below) (fun h => ?_) (fun h => ?_)) | refine u_index (I := k) rfl rfl rfl rfl rfl rfl rfl (by omega) ?_ | refine u_add1 rfl rfl rfl rfl rfl rfl (by omega) ?_ | refine u_add rfl rfl rfl rfl rfl rfl (IntWalk.i64_in _ (by omega)) ?_ | refine u_sub rfl rfl rfl rfl rfl rfl (IntWalk.i64_in _ (by omega)) ?_ | refine u_index rfl rfl rfl rfl rfl rfl rfl (by omega) ?_ | refine u_indexA rfl rfl rfl rfl rfl rfl rfl (by first | decide | omega) ?_ | (refine x_store rfl rfl rfl rfl rfl ?_; refine And.intro rfl (And.intro (by first | decide | exact Nat.le_of_ble_eq_true rfl | (simp; omega)) ⟨_, rfl, ?_⟩)) | (refine u_alloc rfl rfl rfl rfl (fun b => ?_)) | (refine u_box rfl rfl rfl rfl rfl rfl (fun b => ?_)) | (refine x_build rfl rfl rfl rfl rfl ?_; refine ⟨_, rfl, ?_⟩) | refine u_max rfl rfl rfl rfl rfl rfl ?_) | (with_reducible first | refine u_seq ?_ | refine u_region ?_ | refine u_nil ?_ | refine u_then_n ?_ | refine u_ret ?_ | refine u_skip ?_ | refine u_then_r ?_ | refine u_end ?_ | refine u_block ?_ | refine u_exit ?_ | refine u_in_n ?_ | refine u_in_r ?_ | refine u_in_same ?_ | refine u_then_e ?_) | ((with_reducible refine u_in_other ?_ ?_); (· exact rfl)) | ((with_reducible refine u_cond_t ?_ ?_); (· exact rfl)) | ((with_reducible refine u_cond_f ?_ ?_); (· exact rfl))))
    all_goals exact u_again (k + 1) (by omega) (by omega) (by (first | exact fun _ _ h => lk_nil h | (repeat (first | exact (fun _ _ h => lk_nil h) | (refine lk_sub rfl ?_))))) (by
      rw [e1]
      subst h
      simp only [layered, thinned, if_true, if_false, Bool.false_eq_true]
      (repeat (first | exact Out.nil _ | (refine Out.cons (by (repeat (first | exact Take.here _ _ | apply Take.there))) ?_))))
  · obtain rfl : k = n := by omega
    (repeat' (first | ((with_reducible refine isOps ?_); first | refine u_move rfl rfl rfl rfl rfl ?_ | refine u_assign rfl rfl rfl rfl rfl ?_ | (refine x_load rfl rfl rfl rfl rfl ?_; refine ⟨_, rfl, ?_⟩) | refine u_field rfl rfl rfl rfl rfl ?_ | (refine u_cmp rfl rfl rfl rfl rfl rfl rfl (fun h => ?_) (fun h => ?_) <;> (dsimp only [cmpP] at h; (try (exfalso; omega)))) | refine u_add1 rfl rfl rfl rfl rfl rfl (by omega) ?_ | refine u_add rfl rfl rfl rfl rfl rfl (IntWalk.i64_in _ (by omega)) ?_ | refine u_sub rfl rfl rfl rfl rfl rfl (IntWalk.i64_in _ (by omega)) ?_ | refine u_index rfl rfl rfl rfl rfl rfl rfl (by omega) ?_ | refine u_indexA rfl rfl rfl rfl rfl rfl rfl (by first | decide | omega) ?_ | (refine x_store rfl rfl rfl rfl rfl ?_; refine And.intro rfl (And.intro (by first | decide | exact Nat.le_of_ble_eq_true rfl | (simp; omega)) ⟨_, rfl, ?_⟩)) | (refine u_alloc rfl rfl rfl rfl (fun b => ?_)) | (refine u_box rfl rfl rfl rfl rfl rfl (fun b => ?_)) | (refine x_build rfl rfl rfl rfl rfl ?_; refine ⟨_, rfl, ?_⟩) | refine u_max rfl rfl rfl rfl rfl rfl ?_) | (with_reducible first | refine u_seq ?_ | refine u_region ?_ | refine u_nil ?_ | refine u_then_n ?_ | refine u_ret ?_ | refine u_skip ?_ | refine u_then_r ?_ | refine u_end ?_ | refine u_block ?_ | refine u_exit ?_ | refine u_in_n ?_ | refine u_in_r ?_ | refine u_in_same ?_ | refine u_then_e ?_) | ((with_reducible refine u_in_other ?_ ?_); (· exact rfl)) | ((with_reducible refine u_cond_t ?_ ?_); (· exact rfl)) | ((with_reducible refine u_cond_f ?_ ?_); (· exact rfl))))
    exact u_done (by (exact ResL.cons (by exact res1c rfl (by exact rfl)) ResL.nil)) () trivial rfl (fun _ h => h.sub (by (repeat (first | exact Out.nil _ | (refine Out.cons (by (repeat (first | exact Take.here _ _ | apply Take.there))) ?_)))))
end Go.Proofs.YtdigopgncfhiaaaDoor
