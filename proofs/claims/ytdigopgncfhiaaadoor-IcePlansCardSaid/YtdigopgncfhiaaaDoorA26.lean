/- Ice: drilled ice, by the program. -/
import Derived.Test.YtdigopgncfhiaaaDoorA23
import Derived.Test.YtdigopgncfhiaaaDoorA10
import Derived.Test.YtdigopgncfhiaaaDoorA25
import Derived.Test.YtdigopgncfhiaaaDoorA11
namespace Go.Proofs.YtdigopgncfhiaaaDoor
open Go.RowKit
set_option linter.unusedSimpArgs false
set_option linter.unusedVariables false
set_option maxRecDepth 20000
def zeroCov : Cov := ⟨[], [], [], ⟨0, 0⟩, ⟨0, 0⟩, 0, 0, 0⟩
/-- a bed that was drilled -/
def drillBed (z : Bed) (th : Sp) : Bed := { z with thick := ⟨max z.thick.lo th.lo, min z.thick.hi th.hi⟩ }
def drillP (c : Cov) (th : Sp) : List Int → Cov × Int
  | [p] => if p = (c.beds.length : Int) then (zeroCov, 6)
    else if (drillBed (c.beds.getD p.toNat default) th).thick.hi < (drillBed (c.beds.getD p.toNat default) th).thick.lo then (zeroCov, 8)
    else ({ c with beds := c.beds.set p.toNat (drillBed (c.beds.getD p.toNat default) th) }, 0)
  | _ => (zeroCov, 6)
def drillX (c : Cov) (a : Int) (th : Sp) : Cov × Int :=
  if errI c = 0 then
    if errP c.t a = 0 ∧ knownB th 0 2000 = true then drillP c th (placeT c.t a) else (zeroCov, 2)
  else (zeroCov, errI c)
theorem place_in {t : List St} {a : Int} : ∀ p ∈ placeT t a, ∃ i : Nat, p = (i : Int) ∧ i ≤ t.length := fun p hp => by
  unfold placeT at hp
  split at hp
  · obtain ⟨i, hi, rfl⟩ := List.mem_map.1 hp
    have h1 := List.mem_range.1 (List.mem_filter.1 hi).1
    have := marks_len t
    exact ⟨i, rfl, by omega⟩
  · cases hp
theorem own_nil3 {base : Nat} {w : World} : Own base w [.sl encSt 9 none [], .sl encBed 3 none [], .sl encHour 5 none []] := by
  refine ⟨fun e he => ?_, fun e he b hb => ?_, ?_⟩
  · simp only [List.mem_cons, List.not_mem_nil, or_false] at he
    rcases he with rfl | rfl | rfl <;> (intro i x hx; cases hx)
  · simp only [List.mem_cons, List.not_mem_nil, or_false] at he
    rcases he with rfl | rfl | rfl <;> (obtain ⟨o, h⟩ := hb; cases h)
  · refine List.Pairwise.cons (fun e _ b hb => ?_) (List.Pairwise.cons (fun e _ b hb => ?_) (List.Pairwise.cons (fun e _ b hb => ?_) List.Pairwise.nil)) <;> (obtain ⟨o, h⟩ := hb; cases h)
theorem clone_be (t : List Bed) (A : Option Addr) (c : Nat) (w : World) (ht : SlAt encBed 3 w A t) (h0 : 0 < t.length) (hl : t.length ≤ 1000) :
    Ret Tryd.prog 57 [.slice A t.length c] w (fun p : Option Addr × Nat => .slice p.1 t.length p.2) (fun p => [.row encBed 3 117 (.slice p.1 t.length p.2) t]) (fun _ => True) := by
  obtain ⟨bb, o, rfl, _⟩ := ht.at_ h0
  (refine ret_enter (n := 8) Tryd.func57 rfl rfl rfl ?_)
  (repeat' (first | ((with_reducible refine isOps ?_); first | refine u_move rfl rfl rfl rfl rfl ?_ | refine u_assign rfl rfl rfl rfl rfl ?_ | refine u_eqlNil rfl rfl rfl rfl rfl rfl ?_ | (refine u_buildNil encBed rfl rfl rfl rfl (fun b => ?_)) | (refine u_append (enc := encBed) t rfl rfl rfl rfl rfl (by (repeat (first | exact Take.here _ _ | apply Take.there))) rfl rfl (src_in ht) (by refine ⟨?_, by decide⟩; (try simp only [List.length_append, List.length_cons, List.length_nil]); omega) (fun A' c' => ?_))) | (with_reducible first | refine u_seq ?_ | refine u_region ?_ | refine u_nil ?_ | refine u_then_n ?_ | refine u_ret ?_ | refine u_skip ?_) | ((with_reducible refine u_cond_f ?_ ?_); (· exact rfl))))
  exact u_done (by (exact ResL.cons (by exact Res1.tmp rfl) ResL.nil)) (A', c') trivial rfl (fun _ h => h.sub (by (repeat (first | exact Out.nil _ | (refine Out.cons (by (repeat (first | exact Take.here _ _ | apply Take.there))) ?_)))))
theorem clone_st (t : List St) (A : Option Addr) (c : Nat) (w : World) (ht : SlAt encSt 9 w A t) (h0 : 0 < t.length) (hl : t.length ≤ 1000) :
    Ret Tryd.prog 56 [.slice A t.length c] w (fun p : Option Addr × Nat => .slice p.1 t.length p.2) (fun p => [.row encSt 9 114 (.slice p.1 t.length p.2) t]) (fun _ => True) := by
  obtain ⟨bb, o, rfl, _⟩ := ht.at_ h0
  (refine ret_enter (n := 8) Tryd.func56 rfl rfl rfl ?_)
  (repeat' (first | ((with_reducible refine isOps ?_); first | refine u_move rfl rfl rfl rfl rfl ?_ | refine u_assign rfl rfl rfl rfl rfl ?_ | refine u_eqlNil rfl rfl rfl rfl rfl rfl ?_ | (refine u_buildNil encSt rfl rfl rfl rfl (fun b => ?_)) | (refine u_append (enc := encSt) t rfl rfl rfl rfl rfl (by (repeat (first | exact Take.here _ _ | apply Take.there))) rfl rfl (src_in ht) (by refine ⟨?_, by decide⟩; (try simp only [List.length_append, List.length_cons, List.length_nil]); omega) (fun A' c' => ?_))) | (with_reducible first | refine u_seq ?_ | refine u_region ?_ | refine u_nil ?_ | refine u_then_n ?_ | refine u_ret ?_ | refine u_skip ?_) | ((with_reducible refine u_cond_f ?_ ?_); (· exact rfl))))
  exact u_done (by (exact ResL.cons (by exact Res1.tmp rfl) ResL.nil)) (A', c') trivial rfl (fun _ h => h.sub (by (repeat (first | exact Out.nil _ | (refine Out.cons (by (repeat (first | exact Take.here _ _ | apply Take.there))) ?_)))))
end Go.Proofs.YtdigopgncfhiaaaDoor
namespace Go.Proofs.YtdigopgncfhiaaaDoor.Two
variable {ro : Option Nat}
open Go.RowKit
set_option linter.unusedSimpArgs false
set_option linter.unusedVariables false
set_option maxRecDepth 20000
section
variable {S : List (Nat × Nat)} {I : List (Nat × Nat × Nat × List Ent)} {P : Program} {w0 : World} {n : Nat} {d : List Deferred} {R R0 : List (Nat × Value)} {H H' H0 : List Ent} {Q : Exit → Act → World → Prop} {ops : Array Oper} {bs : List (List Bool)} {b : List Bool} {k : Nat} {o : Oper} {rest : List Oper} {T : List Rw} {t : Tmp} {Hk : Wits → List Ent} {x y : Operand} {v : Value}
/-- a call that returns a row of its own -/
theorem c_newrowK {α : Type} {enc : α → List Value} {kk e : Nat} {zs : List α} {f : FuncId} {fx : Operand} {xs : Array Operand} {ts : Array TypeId} {vs : Wits → List Value} {cap : Array Value} (hop : o.op = .call ⟨.value fx, xs, ts⟩) (hw : ∀ G, want (Rk R0 ops b o T G) ops o = some true) (hd : o.dst = some t) (hf : ∀ G, evR (Rk R0 ops b o T G) fx = some (.func (.func f) #[] cap)) (hx : ∀ G, evs (Rk R0 ops b o T G) xs.toList = some (vs G)) [ci : CallI P f]
    (hc : ∀ G a w, Kn w0 n d (Rk R0 ops b o T G) (Hk G) a w → Ret P f (vs G ++ cap.toList) w (fun p : Option Addr × Nat => .slice p.1 zs.length p.2) (fun p => [.row enc kk e (.slice p.1 zs.length p.2) zs]) (fun _ => True)) (h : Chain ro S I P w0 n d ops R0 H0 Q bs (k + 1) rest (⟨k, some t, fun G => (.slice (G k).A zs.length (G k).m, [.row enc kk e (.slice (G k).A zs.length (G k).m) zs])⟩ :: T)) : CAt ro S I P w0 n d ops R0 H0 Q b bs k o rest T Hk := by
  refine c_row (f := fun G => (.slice (G k).A zs.length (G k).m, [.row enc kk e (.slice (G k).A zs.length (G k).m) zs])) (fun G G' hG => by simp only [hG k (.inl rfl)]) (fun G a w q K hK => ?_) (by rw [hd]; exact h)
  rw [want_ok q (hw G), if_pos rfl]
  unfold Oper.wp execOp; rw [hop]
  have e1 : xs.map a.eval = (vs G).toArray := by apply Array.ext'; simpa using q.evs (hx G)
  have e2 : (vs G).toArray ++ cap = (vs G ++ cap.toList).toArray := by apply Array.ext'; simp
  simp only [resolve, q.ev (hf G), e1, Deferred.ofValue, Sem.run_bind, Sem.run_pure, Result.andThen_ok, invoke, Array.empty_append, e2, ci.ent, Oper.upon_enter]
  refine Calls.mono (hc G a w q).calls ?_
  rintro e w' ⟨⟨A, m⟩, hp, rfl, hb, hE⟩
  exact hK _ _ _ ⟨⟨0, A, m⟩, by simp [upW]⟩ hb hE
end
set_option maxHeartbeats 8000000 in
theorem iDrill_any (c : Cov) (A : Option Addr) (ca : Nat) (B : Option Addr) (cb : Nat) (C : Option Addr) (cc : Nat) (a : Int) (th : Sp) (w : World) (h : CovAt w c A B C) (hs : Small c) :
    Ret Tryd.prog 14 [vCov c A ca B cb C cc, .int .i64 a, vSp th] w (fun p : (Option Addr × Nat) × (Option Addr × Nat) × (Option Addr × Nat) => .tuple #[vCov (drillX c a th).1 p.1.1 p.1.2 p.2.1.1 p.2.1.2 p.2.2.1 p.2.2.2, .int .i64 (drillX c a th).2]) (fun p => [.sl encSt 9 p.1.1 (drillX c a th).1.t, .sl encBed 3 p.2.1.1 (drillX c a th).1.beds, .sl encHour 5 p.2.2.1 (drillX c a th).1.hours]) (fun _ => True) := by
  have h4 := hs.b; have h5 := hs.h
  by_cases h0 : errI c = 0
  · have hf := fine_of h0
    have hv : valid c.t = true := by
      cases hv : valid c.t with
      | true => rfl
      | false => unfold errI at h0; rw [hv] at h0; simp at h0
    have hvl := valid_len hv
    have hbl := beds_pos h0
    have hbt := hf.beds
    have hh1 := hf.hours
    rw [inB_iff] at hh1
    have h1 := fun W (hb : Below w.heap.size w W) => iopen_ok c A ca B cb C cc W (h.below hb) hs h0
    have h2 := fun W (hb : Below w.heap.size w W) => place_any c.t A ca a W (h.t.below hb) hs.fit (by omega)
    have h3 := fun W (hb : Below w.heap.size w W) => clone_st c.t A ca W (h.t.below hb) (by omega) (by omega)
    have h6 := fun W (hb : Below w.heap.size w W) => clone_be c.beds B cb W (h.b.below hb) (by omega) (by omega)
    have h7 := fun W (hb : Below w.heap.size w W) => clone_ho c.hours C cc W (h.h.below hb) (by omega) (by omega)
    have hpi := place_in (t := c.t) (a := a)
    have hX : drillX c a th = if errP c.t a = 0 ∧ knownB th 0 2000 = true then drillP c th (placeT c.t a) else (zeroCov, 2) := by unfold drillX; rw [if_pos h0]
    generalize drillX c a th = dx at *
    generalize errP c.t a = ep at *
    generalize placeT c.t a = l at *
    have e1 : vCov c A ca B cb C cc = .agg (cellsCov c A ca B cb C cc).toArray := rfl
    rw [e1] at h1 ⊢
    unfold vT at h2
    unfold cellsCov at h1 ⊢
    (refine ret_enter (n := 107) Tryd.func14 rfl rfl rfl ?_)
    (repeat' (first | ((with_reducible refine isOps ?_); first | refine u_move rfl rfl rfl rfl rfl ?_ | refine u_assign rfl rfl rfl rfl rfl ?_ | (refine x_load rfl rfl rfl rfl rfl ?_; refine ⟨_, rfl, ?_⟩) | refine u_field rfl rfl rfl rfl rfl ?_ | refine u_pick rfl rfl rfl rfl rfl rfl ?_ | refine u_not_wanted rfl rfl rfl ?_ | (refine u_cmp rfl rfl rfl rfl rfl rfl rfl (fun h => ?_) (fun h => ?_) <;> (dsimp only [cmpP] at h; (try (exfalso; omega)))) | (refine u_call rfl rfl rfl rfl rfl rfl (fun _ _ q => h1 _ q.below) ?_; rintro g -; dsimp only [List.cons_append, List.nil_append]) | refine u_newsl rfl rfl rfl rfl rfl rfl (fun _ _ q => h2 _ q.below) (fun A' c' => ?_) | (refine u_givesB rfl rfl rfl rfl rfl rfl (fun _ _ q => iordered_any th 0 2000 _) (fun h => ?_) (fun h => ?_) <;> skip) | refine u_extract rfl rfl rfl rfl rfl rfl ?_ | refine u_not rfl rfl rfl rfl rfl ?_ | (refine x_store rfl rfl rfl rfl rfl ?_; refine And.intro rfl (And.intro (by first | decide | exact Nat.le_of_ble_eq_true rfl | (simp; omega)) ⟨_, rfl, ?_⟩)) | (refine u_alloc rfl rfl rfl rfl (fun b => ?_)) | (refine u_box rfl rfl rfl rfl rfl rfl (fun b => ?_)) | (refine x_build rfl rfl rfl rfl rfl ?_; refine ⟨_, rfl, ?_⟩)) | (with_reducible first | refine u_seq ?_ | refine u_region ?_ | refine u_nil ?_ | refine u_then_n ?_ | refine u_ret ?_ | refine u_skip ?_ | refine u_then_r ?_) | ((with_reducible refine u_cond_t ?_ ?_); (· exact rfl)) | ((with_reducible refine u_cond_f ?_ ?_); (· exact rfl))))
    · rw [show dx = (zeroCov, 2) by rw [hX, if_neg (fun e => h e.1)]]
      exact u_done (by (exact ResL.cons (by exact res1c rfl (by exact rfl)) (ResL.cons (by exact Res1.tmp rfl) ResL.nil))) ((none, 0), (none, 0), none, 0) trivial rfl (fun _ h => own_nil3)
    · rename_i b3 b5 x1 hne
      obtain ⟨b6, hb6⟩ : ∃ x, x = b := ⟨_, rfl⟩
      subst hb6
      have hep : ep = 0 := by omega
      rw [if_pos ⟨hep, h⟩] at hX
      rcases l with _ | ⟨p, _ | ⟨p2, r⟩⟩
      · rw [show dx = (zeroCov, 6) from hX]
        simp only [List.length_nil]
        (refine u_quiet (by kernel_rfl) (by kernel_rfl) (by kernel_rfl) ?_)
        (repeat' (first | ((with_reducible refine isOpsQ ?_); first | refine q_val (e_move rfl rfl) rfl rfl rfl ?_ | refine q_val (e_pick rfl rfl rfl) rfl rfl rfl ?_ | refine q_not_wanted rfl rfl rfl ?_ | (refine q_cmp rfl rfl rfl rfl rfl rfl rfl (fun h => ?_) (fun h => ?_) <;> (dsimp only [cmpP] at h; (try (exfalso; omega)))) | refine q_val (e_len rfl rfl) rfl rfl rfl ?_) | (with_reducible refine q_nil ?_)))
        all_goals (repeat' (first | ((with_reducible refine isOps ?_); first | refine u_assign rfl rfl rfl rfl rfl ?_ | (refine x_store rfl rfl rfl rfl rfl ?_; refine And.intro rfl (And.intro (by first | decide | exact Nat.le_of_ble_eq_true rfl | (simp; omega)) ⟨_, rfl, ?_⟩)) | (refine x_build rfl rfl rfl rfl rfl ?_; refine ⟨_, rfl, ?_⟩)) | (with_reducible first | refine u_seq ?_ | refine u_region ?_ | refine u_nil ?_ | refine u_then_n ?_ | refine u_ret ?_ | refine u_then_r ?_) | ((with_reducible refine u_cond_t ?_ ?_); (· exact rfl))))
        all_goals exact u_done (by (exact ResL.cons (by exact res1c rfl (by exact rfl)) (ResL.cons (by exact Res1.tmp rfl) ResL.nil))) ((none, 0), (none, 0), none, 0) trivial rfl (fun _ h => own_nil3)
      · obtain ⟨i, rfl, hi⟩ := hpi p (by simp)
        simp only [drillP] at hX
        refine u_slS (xs := [(i : Int)]) (by (repeat (first | exact Take.here _ _ | apply Take.there))) (by simp) ?_
        rintro b9 o9 rfl
        have : GetI [(i : Int)] 0 (i : Int) := ⟨rfl⟩
        simp only [List.length_cons, List.length_nil]
        by_cases hie : i = c.beds.length
        · rw [show dx = (zeroCov, 6) by rw [hX, if_pos (by omega)]]
          (refine u_quiet (by kernel_rfl) (by kernel_rfl) (by kernel_rfl) ?_)
          (repeat' (first | ((with_reducible refine isOpsQ ?_); first | refine q_val (e_move rfl rfl) rfl rfl rfl ?_ | refine q_val (e_load' rfl rfl (by exact rfl)) rfl rfl rfl ?_ | refine q_val (e_field rfl rfl) rfl rfl rfl ?_ | refine q_val (e_pick rfl rfl rfl) rfl rfl rfl ?_ | (refine q_cmp rfl rfl rfl rfl rfl rfl rfl (fun h => ?_) (fun h => ?_) <;> (dsimp only [cmpP] at h; (try (exfalso; omega)))) | refine q_val (e_index (I := 0) rfl rfl rfl (by omega) (by first | omega | (dsimp only; omega))) rfl rfl rfl ?_ | refine q_val (e_len rfl rfl) rfl rfl rfl ?_) | (with_reducible refine q_nil ?_)))
          all_goals (repeat' (first | ((with_reducible refine isOps ?_); first | refine u_assign rfl rfl rfl rfl rfl ?_ | (refine x_store rfl rfl rfl rfl rfl ?_; refine And.intro rfl (And.intro (by first | decide | exact Nat.le_of_ble_eq_true rfl | (simp; omega)) ⟨_, rfl, ?_⟩)) | (refine x_build rfl rfl rfl rfl rfl ?_; refine ⟨_, rfl, ?_⟩)) | (with_reducible first | refine u_seq ?_ | refine u_region ?_ | refine u_nil ?_ | refine u_then_n ?_ | refine u_ret ?_ | refine u_then_r ?_) | ((with_reducible refine u_cond_t ?_ ?_); (· exact rfl))))
          all_goals exact u_done (by (exact ResL.cons (by exact res1c rfl (by exact rfl)) (ResL.cons (by exact Res1.tmp rfl) ResL.nil))) ((none, 0), (none, 0), none, 0) trivial rfl (fun _ h => own_nil3)
        · rw [if_neg (by omega)] at hX
          obtain ⟨z, hz⟩ : ∃ z, c.beds[i]? = some z := ⟨_, List.getElem?_eq_getElem (by omega)⟩
          simp only [Int.toNat_natCast, getD_of hz] at hX
          (refine u_quiet (by kernel_rfl) (by kernel_rfl) (by kernel_rfl) ?_)
          (repeat' (first | ((with_reducible refine isOpsQ ?_); first | refine q_val (e_move rfl rfl) rfl rfl rfl ?_ | refine q_val (e_load' rfl rfl (by exact rfl)) rfl rfl rfl ?_ | refine q_val (e_field rfl rfl) rfl rfl rfl ?_ | refine q_val (e_pick rfl rfl rfl) rfl rfl rfl ?_ | (refine q_cmp rfl rfl rfl rfl rfl rfl rfl (fun h => ?_) (fun h => ?_) <;> (dsimp only [cmpP] at h; (try (exfalso; omega)))) | refine q_val (e_index (I := 0) rfl rfl rfl (by omega) (by first | omega | (dsimp only; omega))) rfl rfl rfl ?_ | refine q_val (e_len rfl rfl) rfl rfl rfl ?_) | (with_reducible refine q_nil ?_)))
          all_goals (repeat' (first | ((with_reducible refine isOps ?_); first | refine u_move rfl rfl rfl rfl rfl ?_ | (refine x_load rfl rfl rfl rfl rfl ?_; refine ⟨_, rfl, ?_⟩) | refine u_field rfl rfl rfl rfl rfl ?_ | (refine x_store rfl rfl rfl rfl rfl ?_; refine And.intro rfl (And.intro (by first | decide | exact Nat.le_of_ble_eq_true rfl | (simp; omega)) ⟨_, rfl, ?_⟩)) | (refine u_alloc rfl rfl rfl rfl (fun b => ?_)) | refine u_nilCheck rfl rfl rfl rfl rfl ?_) | (with_reducible first | refine u_seq ?_ | refine u_region ?_ | refine u_nil ?_ | refine u_then_n ?_ | refine u_skip ?_) | ((with_reducible refine u_cond_f ?_ ?_); (· exact rfl))))
          (refine u_chain [] [] [] rfl (by decide) (fun _ h => h) (by kernel_rfl) [[], [true], [true, true], [true, true, true], [false, false, false, false], [true, false, false, false, false], [true, true, true, true, true, true], [false, false, false, false, false, false, false], [true, false, false, false, false, false, false, false], [true, true, true, true, true, true, true, true, true], [false, false, false, false, false, false, true, true, true, true], [true, false, false, false, false, false, false, true, true, true, true], [true, true, true, true, true, true, true, true, true, true, true, true], [true, true, true, true, true, true, true, true, true, true, true, true, true], [true, true, true, true, true, true, true, true, true, true, true, true, true, true], [true, true, true, true, true, true, true, true, true, true, true, true, true, true, true], [true, true, true, true, true, true, true, true, true, true, true, true, true, true, true, true]] (by kernel_rfl) (by kernel_rfl) (by kernel_rfl) (by kernel_rfl) (by kernel_rfl) ?_)
          (repeat' (first | (((with_reducible refine c_go ?_ ?_); (· exact rfl); refine ⟨_, fun G => (by (try simp (decide := true) only [vis, see, fltT, entsT, Nat.reduceAdd, Nat.reduceSub, if_true, if_false, List.set_cons_zero, List.set_cons_succ, List.set_nil, List.nil_append, List.cons_append]); rfl), ?_⟩); first | refine c_val _ (fun _ => e_load' rfl rfl (by exact rfl)) (fun _ => rfl) rfl (by first | exact fun _ _ _ => rfl | (intro G G' h; simp (decide := true) only [h])) ?_ | (refine c_isField rfl ?_; refine c_val _ (fun _ => e_field rfl rfl) (fun _ => rfl) rfl (by first | exact fun _ _ _ => rfl | (intro G G' h; simp (decide := true) only [h])) ?_) | (refine c_newrowK (enc := encSt) (e := 114) (zs := c.t) rfl (fun _ => rfl) rfl (fun _ => rfl) (fun _ => rfl) (fun _ _ _ q => h3 _ q.below) ?_) | (refine c_newrowK (enc := encBed) (e := 117) (zs := c.beds) rfl (fun _ => rfl) rfl (fun _ => rfl) (fun _ => rfl) (fun _ _ _ q => h6 _ q.below) ?_) | (refine c_newrowK (enc := encHour) (e := 120) (zs := c.hours) rfl (fun _ => rfl) rfl (fun _ => rfl) (fun _ => rfl) (fun _ _ _ q => h7 _ q.below) ?_)) | ((with_reducible refine c_tail ?_ ?_); (· exact rfl))))
          intro G
          simp only [regsT, List.nil_append, List.cons_append, Nat.reduceAdd]
          refine u_own (H' := [.row encHour 5 120 (.slice (G 9).A c.hours.length (G 9).m) c.hours, .row encBed 3 117 (.slice (G 6).A c.beds.length (G 6).m) c.beds, .row encSt 9 114 (.slice (G 3).A c.t.length (G 3).m) c.t, .blk b [.slice A c.t.length ca, .slice B c.beds.length cb, .slice C c.hours.length cc, .int .i64 c.wear.lo, .int .i64 c.wear.hi, .int .i64 c.layer.lo, .int .i64 c.layer.hi, .int .i64 c.rate, .int .i64 c.limit, .int .i64 c.base], .sl encI 1 (some ⟨b9, o9, none⟩) [(i : Int)], .blk b6 [.slice none 0 0, .slice none 0 0, .slice none 0 0, .int .i64 0, .int .i64 0, .int .i64 0, .int .i64 0, .int .i64 0, .int .i64 0, .int .i64 0], .blk b5 [.int .i64 th.lo, .int .i64 th.hi]]) (fun _ h => h.sub (by (repeat (first | exact Out.nil _ | (refine Out.cons (by (repeat (first | exact Take.here _ _ | apply Take.there))) ?_))))) ?_
          generalize (G 9).A = A9
          generalize (G 9).m = m9
          generalize (G 6).A = A6
          generalize (G 6).m = m6
          generalize (G 3).A = A3
          generalize (G 3).m = m3
          refine u_row_arr (enc := encBed) (xs := c.beds) (by (repeat (first | exact Take.here _ _ | apply Take.there))) (by omega) ?_
          rintro gb rfl
          have : GetI c.beds i z := ⟨hz⟩
          (repeat' (first | ((with_reducible refine isOps ?_); first | refine u_field rfl rfl rfl rfl rfl ?_ | (refine x_store rfl rfl rfl rfl rfl ?_; refine And.intro rfl (And.intro (by first | decide | exact Nat.le_of_ble_eq_true rfl | (simp; omega)) ⟨_, rfl, ?_⟩))) | (with_reducible first | refine u_seq ?_ | refine u_nil ?_ | refine u_then_n ?_)))
          (refine u_quiet (by kernel_rfl) (by kernel_rfl) (by kernel_rfl) ?_)
          (repeat' (first | ((with_reducible refine isOpsQ ?_); first | refine q_val (e_move rfl rfl) rfl rfl rfl ?_ | refine q_val (e_load' rfl rfl (by exact rfl)) rfl rfl rfl ?_ | refine q_val (e_field rfl rfl) rfl rfl rfl ?_ | refine q_val (e_assign rfl rfl) rfl rfl rfl ?_ | refine q_val (e_index (I := 0) rfl rfl rfl (by omega) (by first | omega | (dsimp only; omega))) rfl rfl rfl ?_ | refine q_val (e_index (I := i) rfl rfl rfl (by omega) (by first | omega | (dsimp only; omega))) rfl rfl rfl ?_) | (with_reducible refine q_nil ?_)))
          (repeat' (first | (with_reducible first | refine u_seq ?_ | refine u_then_n ?_)))
          (refine u_chain [] [] [] rfl (by decide) (fun _ h => h) (by kernel_rfl) [[], [false], [true, false], [true, true, false], [true, true, true, false], [true, true, true, true, false], [false, false, false, false, false, false], [true, false, false, false, false, false, false], [true, true, true, true, true, true, true, false], [false, false, false, false, false, false, false, false, false], [true, false, false, false, false, false, false, false, false, false], [true, true, false, false, false, false, false, false, false, false, false], [true, true, true, false, false, false, false, false, false, false, false, false], [true, true, true, true, false, false, false, false, false, false, false, false, false], [false, false, false, false, false, false, false, false, false, false, false, false, false, false], [true, false, false, false, false, false, false, false, false, false, false, false, false, false, false], [true, true, true, true, true, true, true, false, false, false, false, false, false, false, false, false], [true, true, true, true, true, true, true, true, true, true, true, true, true, true, true, true, false], [true, true, true, true, true, true, true, true, true, true, true, true, true, true, true, true, true, true], [true, true, true, true, true, true, true, true, true, true, true, true, true, true, true, true, true, true, true], [true, true, true, true, true, true, true, true, true, true, true, true, true, true, true, true, true, true, true, true]] (by kernel_rfl) (by kernel_rfl) (by kernel_rfl) (by kernel_rfl) (by kernel_rfl) ?_)
          (repeat' (first | (((with_reducible refine c_go ?_ ?_); (· exact rfl); refine ⟨_, fun G => (by (try simp (decide := true) only [vis, see, fltT, entsT, Nat.reduceAdd, Nat.reduceSub, if_true, if_false, List.set_cons_zero, List.set_cons_succ, List.set_nil, List.nil_append, List.cons_append]); rfl), ?_⟩); first | refine c_val _ (fun _ => e_move rfl rfl) (fun _ => rfl) rfl (by first | exact fun _ _ _ => rfl | (intro G G' h; simp (decide := true) only [h])) ?_ | refine c_val _ (fun _ => e_load' rfl rfl (by exact rfl)) (fun _ => rfl) rfl (by first | exact fun _ _ _ => rfl | (intro G G' h; simp (decide := true) only [h])) ?_ | (refine c_isField rfl ?_; refine c_val _ (fun _ => e_field rfl rfl) (fun _ => rfl) rfl (by first | exact fun _ _ _ => rfl | (intro G G' h; simp (decide := true) only [h])) ?_) | refine c_val _ (fun _ => e_nilCheck rfl rfl) (fun _ => rfl) rfl (by first | exact fun _ _ _ => rfl | (intro G G' h; simp (decide := true) only [h])) ?_ | refine c_val _ (fun _ => e_min rfl rfl rfl) (fun _ => rfl) rfl (by first | exact fun _ _ _ => rfl | (intro G G' h; simp (decide := true) only [h])) ?_ | refine c_val _ (fun _ => e_max rfl rfl rfl) (fun _ => rfl) rfl (by first | exact fun _ _ _ => rfl | (intro G G' h; simp (decide := true) only [h])) ?_ | refine c_val _ (fun _ => e_build' rfl rfl (by exact rfl)) (fun _ => rfl) rfl (by first | exact fun _ _ _ => rfl | (intro G G' h; simp (decide := true) only [h])) ?_) | ((with_reducible refine c_tail ?_ ?_); (· exact rfl))))
          intro G2
          simp only [regsT, List.nil_append, List.cons_append, Nat.reduceAdd]
          refine u_own (H' := [.arr encBed 3 gb c.beds, .blk b [.slice A3 c.t.length m3, .slice (some ⟨gb, 0, none⟩) c.beds.length m6, .slice A9 c.hours.length m9, .int .i64 c.wear.lo, .int .i64 c.wear.hi, .int .i64 c.layer.lo, .int .i64 c.layer.hi, .int .i64 c.rate, .int .i64 c.limit, .int .i64 c.base], .row encHour 5 120 (.slice A9 c.hours.length m9) c.hours, .row encSt 9 114 (.slice A3 c.t.length m3) c.t, .sl encI 1 (some ⟨b9, o9, none⟩) [(i : Int)], .blk b6 [.slice none 0 0, .slice none 0 0, .slice none 0 0, .int .i64 0, .int .i64 0, .int .i64 0, .int .i64 0, .int .i64 0, .int .i64 0, .int .i64 0], .blk b5 [.int .i64 th.lo, .int .i64 th.hi]]) (fun _ h => h.sub (by (repeat (first | exact Out.nil _ | (refine Out.cons (by (repeat (first | exact Take.here _ _ | apply Take.there))) ?_))))) ?_
          (repeat' (first | ((with_reducible refine isOps ?_); first | refine u_storeA (enc := encBed) (k := 3) (i := i) (j := 0) (z := z) (drillBed z th) rfl rfl rfl rfl rfl rfl rfl rfl (by decide) ?_) | (with_reducible first | refine u_seq ?_ | refine u_nil ?_ | refine u_then_n ?_)))
          have : GetI (c.beds.set i (drillBed z th)) i (drillBed z th) := ⟨List.getElem?_set_self (by omega)⟩
          (refine u_quiet (by kernel_rfl) (by kernel_rfl) (by kernel_rfl) ?_)
          (repeat' (first | ((with_reducible refine isOpsQ ?_); first | refine q_val (e_move rfl rfl) rfl rfl rfl ?_ | refine q_val (e_load' rfl rfl (by exact rfl)) rfl rfl rfl ?_ | refine q_val (e_field rfl rfl) rfl rfl rfl ?_ | (refine q_cmp rfl rfl rfl rfl rfl rfl rfl (fun h => ?_) (fun h => ?_) <;> (dsimp only [cmpP] at h; (try (exfalso; omega)))) | refine q_val (e_nilCheck rfl rfl) rfl rfl rfl ?_) | (with_reducible refine q_nil ?_)))
          · rw [show dx = (zeroCov, 8) by rw [hX, if_pos h]]
            (repeat' (first | ((with_reducible refine isOps ?_); first | refine u_assign rfl rfl rfl rfl rfl ?_ | (refine x_store rfl rfl rfl rfl rfl ?_; refine And.intro rfl (And.intro (by first | decide | exact Nat.le_of_ble_eq_true rfl | (simp; omega)) ⟨_, rfl, ?_⟩)) | (refine x_build rfl rfl rfl rfl rfl ?_; refine ⟨_, rfl, ?_⟩)) | (with_reducible first | refine u_seq ?_ | refine u_region ?_ | refine u_nil ?_ | refine u_then_n ?_ | refine u_ret ?_ | refine u_then_r ?_) | ((with_reducible refine u_cond_t ?_ ?_); (· exact rfl))))
            exact u_done (by (exact ResL.cons (by exact res1c rfl (by exact rfl)) (ResL.cons (by exact Res1.tmp rfl) ResL.nil))) ((none, 0), (none, 0), none, 0) trivial rfl (fun _ h => own_nil3)
          · rw [show dx = ({ c with beds := c.beds.set i (drillBed z th) }, 0) by rw [hX, if_neg h]]
            (repeat' (first | ((with_reducible refine isOps ?_); first | refine u_assign rfl rfl rfl rfl rfl ?_ | (refine x_load rfl rfl rfl rfl rfl ?_; refine ⟨_, rfl, ?_⟩) | (refine x_store rfl rfl rfl rfl rfl ?_; refine And.intro rfl (And.intro (by first | decide | exact Nat.le_of_ble_eq_true rfl | (simp; omega)) ⟨_, rfl, ?_⟩))) | (with_reducible first | refine u_seq ?_ | refine u_region ?_ | refine u_nil ?_ | refine u_then_n ?_ | refine u_ret ?_ | refine u_skip ?_) | ((with_reducible refine u_cond_f ?_ ?_); (· exact rfl))))
            exact u_done (by (exact ResL.cons (by exact res1c rfl (by exact rfl)) (ResL.cons (by exact Res1.tmp rfl) ResL.nil))) ((A3, m3), (some ⟨gb, 0, none⟩, m6), A9, m9) trivial (by simp only [vCov, cellsCov, List.length_set]; rfl) (fun _ h => (((Own.arr_sl (xs := c.beds.set i (drillBed z th)) (by (repeat (first | exact Take.here _ _ | apply Take.there))) h).row_sl (xs := c.hours) (by (repeat (first | exact Take.here _ _ | apply Take.there)))).row_sl (xs := c.t) (by (repeat (first | exact Take.here _ _ | apply Take.there)))).sub (by (repeat (first | exact Out.nil _ | (refine Out.cons (by (repeat (first | exact Take.here _ _ | apply Take.there))) ?_)))))
      · rw [show dx = (zeroCov, 6) from hX]
        simp only [List.length_cons]
        (refine u_quiet (by kernel_rfl) (by kernel_rfl) (by kernel_rfl) ?_)
        (repeat' (first | ((with_reducible refine isOpsQ ?_); first | refine q_val (e_move rfl rfl) rfl rfl rfl ?_ | refine q_val (e_pick rfl rfl rfl) rfl rfl rfl ?_ | refine q_not_wanted rfl rfl rfl ?_ | (refine q_cmp rfl rfl rfl rfl rfl rfl rfl (fun h => ?_) (fun h => ?_) <;> (dsimp only [cmpP] at h; (try (exfalso; omega)))) | refine q_val (e_len rfl rfl) rfl rfl rfl ?_) | (with_reducible refine q_nil ?_)))
        all_goals (repeat' (first | ((with_reducible refine isOps ?_); first | refine u_assign rfl rfl rfl rfl rfl ?_ | (refine x_store rfl rfl rfl rfl rfl ?_; refine And.intro rfl (And.intro (by first | decide | exact Nat.le_of_ble_eq_true rfl | (simp; omega)) ⟨_, rfl, ?_⟩)) | (refine x_build rfl rfl rfl rfl rfl ?_; refine ⟨_, rfl, ?_⟩)) | (with_reducible first | refine u_seq ?_ | refine u_region ?_ | refine u_nil ?_ | refine u_then_n ?_ | refine u_ret ?_ | refine u_then_r ?_) | ((with_reducible refine u_cond_t ?_ ?_); (· exact rfl))))
        all_goals exact u_done (by (exact ResL.cons (by exact res1c rfl (by exact rfl)) (ResL.cons (by exact Res1.tmp rfl) ResL.nil))) ((none, 0), (none, 0), none, 0) trivial rfl (fun _ h => own_nil3)
    · rw [show dx = (zeroCov, 2) by rw [hX, if_neg (fun e => by rw [e.2] at h; cases h)]]
      exact u_done (by (exact ResL.cons (by exact res1c rfl (by exact rfl)) (ResL.cons (by exact Res1.tmp rfl) ResL.nil))) ((none, 0), (none, 0), none, 0) trivial rfl (fun _ h => own_nil3)
  · have h1 := fun W (hb : Below w.heap.size w W) => iopen_no c A ca B cb C cc W (h.below hb) hs h0
    have hX : drillX c a th = (zeroCov, errI c) := by unfold drillX; rw [if_neg h0]
    rw [hX]
    have e1 : vCov c A ca B cb C cc = .agg (cellsCov c A ca B cb C cc).toArray := rfl
    rw [e1] at h1 ⊢
    generalize errI c = e at *
    unfold cellsCov at h1 ⊢
    (refine ret_enter (n := 107) Tryd.func14 rfl rfl rfl ?_)
    (repeat' (first | ((with_reducible refine isOps ?_); first | refine u_move rfl rfl rfl rfl rfl ?_ | refine u_assign rfl rfl rfl rfl rfl ?_ | (refine x_load rfl rfl rfl rfl rfl ?_; refine ⟨_, rfl, ?_⟩) | (refine u_cmp rfl rfl rfl rfl rfl rfl rfl (fun h => ?_) (fun h => ?_) <;> (dsimp only [cmpP] at h; (try (exfalso; omega)))) | refine u_gives rfl rfl rfl rfl rfl rfl (fun _ _ q => h1 _ q.below) ?_ | refine u_extract rfl rfl rfl rfl rfl rfl ?_ | (refine x_store rfl rfl rfl rfl rfl ?_; refine And.intro rfl (And.intro (by first | decide | exact Nat.le_of_ble_eq_true rfl | (simp; omega)) ⟨_, rfl, ?_⟩)) | (refine u_alloc rfl rfl rfl rfl (fun b => ?_)) | (refine u_box rfl rfl rfl rfl rfl rfl (fun b => ?_)) | (refine x_build rfl rfl rfl rfl rfl ?_; refine ⟨_, rfl, ?_⟩)) | (with_reducible first | refine u_seq ?_ | refine u_region ?_ | refine u_nil ?_ | refine u_then_n ?_ | refine u_ret ?_ | refine u_then_r ?_) | ((with_reducible refine u_cond_t ?_ ?_); (· exact rfl))))
    exact u_done (by (exact ResL.cons (by exact res1c rfl (by exact rfl)) (ResL.cons (by exact Res1.tmp rfl) ResL.nil))) ((none, 0), (none, 0), none, 0) trivial rfl (fun _ h => own_nil3)
end Go.Proofs.YtdigopgncfhiaaaDoor.Two
/- Ice: drilled ice, by the reference. -/
namespace Go.Proofs.YtdigopgncfhiaaaDoor.Two
variable {ro : Option Nat}
open Go.RowKit
set_option linter.unusedSimpArgs false
set_option linter.unusedVariables false
set_option maxRecDepth 20000
/-- a twin whose beds and hours are rows of one's own -/
theorem twin2_own (c : Cov) (A : Option Addr) (ca : Nat) (B : Option Addr) (cb : Nat) (C : Option Addr) (cc : Nat) (w : World) (h : CovAt w c A B C) (h1 : c.t.length ≤ 1000) (h2 : c.beds.length ≤ 1000) (h3 : c.hours.length ≤ 1000) :
    Ret Tryd.prog 7 [vCov c A ca B cb C cc] w (fun p : (Option Addr × Nat) × (Option Addr × Nat) × (Option Addr × Nat) => vCov c p.1.1 p.1.2 p.2.1.1 p.2.1.2 p.2.2.1 p.2.2.2) (fun p => [.sl encSt 9 p.1.1 c.t, .row encBed 3 117 (.slice p.2.1.1 c.beds.length p.2.1.2) c.beds, .row encHour 5 120 (.slice p.2.2.1 c.hours.length p.2.2.2) c.hours]) (fun _ => True) := by
  have hb := h.b; have hh := h.h
  have hT := fun W (hW : Below w.heap.size w W) => twin_any c.t A ca W (h.t.below hW) h1
  unfold vT at hT
  unfold vCov cellsCov
  (refine ret_enter (n := 18) Tryd.func7 rfl rfl rfl ?_)
  (repeat' (first | ((with_reducible refine isOps ?_); first | (refine x_load rfl rfl rfl rfl rfl ?_; refine ⟨_, rfl, ?_⟩) | refine u_field rfl rfl rfl rfl rfl ?_ | refine u_newsl rfl rfl rfl rfl rfl rfl (fun _ _ q => hT _ q.below) (fun A' c' => ?_) | (refine u_buildNil encBed (e := 117) rfl rfl rfl rfl (fun b => ?_)) | (refine u_append (enc := encBed) c.beds rfl rfl rfl rfl rfl (by (repeat (first | exact Take.here _ _ | apply Take.there))) rfl rfl (src_in hb) (by refine ⟨?_, by decide⟩; (try simp only [List.length_append, List.length_cons, List.length_nil]); omega) (fun A' c' => ?_)) | (refine u_buildNil encHour (e := 120) rfl rfl rfl rfl (fun b => ?_)) | (refine u_append (enc := encHour) c.hours rfl rfl rfl rfl rfl (by (repeat (first | exact Take.here _ _ | apply Take.there))) rfl rfl (src_in hh) (by refine ⟨?_, by decide⟩; (try simp only [List.length_append, List.length_cons, List.length_nil]); omega) (fun A' c' => ?_)) | (refine x_store rfl rfl rfl rfl rfl ?_; refine And.intro rfl (And.intro (by first | decide | exact Nat.le_of_ble_eq_true rfl | (simp; omega)) ⟨_, rfl, ?_⟩)) | (refine u_alloc rfl rfl rfl rfl (fun b => ?_)) | (refine u_box rfl rfl rfl rfl rfl rfl (fun b => ?_))) | (with_reducible first | refine u_seq ?_ | refine u_region ?_ | refine u_nil ?_ | refine u_then_n ?_ | refine u_ret ?_)))
  rename_i A1 c1 bb A2 c2
  simp only [List.nil_append]
  exact u_done (by (exact ResL.cons (by exact res1c rfl (by exact rfl)) ResL.nil)) ((A1, c1), (A2, c2), (A', c')) trivial rfl (fun _ h => h.sub (by (repeat (first | exact Out.nil _ | (refine Out.cons (by (repeat (first | exact Take.here _ _ | apply Take.there))) ?_)))))
set_option maxHeartbeats 8000000 in
theorem rDrill_any (c : Cov) (A : Option Addr) (ca : Nat) (B : Option Addr) (cb : Nat) (C : Option Addr) (cc : Nat) (a : Int) (th : Sp) (w : World) (h : CovAt w c A B C) (hs : Small c) :
    Ret Tryd.prog 15 [vCov c A ca B cb C cc, .int .i64 a, vSp th] w (fun p : (Option Addr × Nat) × (Option Addr × Nat) × (Option Addr × Nat) => .tuple #[vCov (drillX c a th).1 p.1.1 p.1.2 p.2.1.1 p.2.1.2 p.2.2.1 p.2.2.2, .int .i64 (drillX c a th).2]) (fun p => [.sl encSt 9 p.1.1 (drillX c a th).1.t, .sl encBed 3 p.2.1.1 (drillX c a th).1.beds, .sl encHour 5 p.2.2.1 (drillX c a th).1.hours]) (fun _ => True) := by
  have h4 := hs.b; have h5 := hs.h; have h6' := hs.t
  have h1 := fun W (hb : Below w.heap.size w W) => rcheck2_any c A ca B cb C cc W (h.below hb) hs
  by_cases h0 : errI c = 0
  · have hf := fine_of h0
    have hv : valid c.t = true := by
      cases hv : valid c.t with
      | true => rfl
      | false => unfold errI at h0; rw [hv] at h0; simp at h0
    have hvl := valid_len hv
    have hbl := beds_pos h0
    have hbt := hf.beds
    have hh1 := hf.hours
    rw [inB_iff] at hh1
    rw [h0] at h1
    have h2 := fun W (hb : Below w.heap.size w W) => rplace_any c.t A ca a W (h.t.below hb) hs.fit (by omega)
    have h3 := fun W (hb : Below w.heap.size w W) => twin2_own c A ca B cb C cc W (h.below hb) (by omega) (by omega) (by omega)
    have hpi := place_in (t := c.t) (a := a)
    have hX : drillX c a th = if errP c.t a = 0 ∧ knownB th 0 2000 = true then drillP c th (placeT c.t a) else (zeroCov, 2) := by unfold drillX; rw [if_pos h0]
    generalize drillX c a th = dx at *
    generalize errP c.t a = ep at *
    generalize placeT c.t a = l at *
    have e1 : vCov c A ca B cb C cc = .agg (cellsCov c A ca B cb C cc).toArray := rfl
    have e2 : ∀ p : (Option Addr × Nat) × (Option Addr × Nat) × (Option Addr × Nat), vCov c p.1.1 p.1.2 p.2.1.1 p.2.1.2 p.2.2.1 p.2.2.2 = .agg (cellsCov c p.1.1 p.1.2 p.2.1.1 p.2.1.2 p.2.2.1 p.2.2.2).toArray := fun _ => rfl
    simp only [e2] at h3
    rw [e1] at h1 h3 ⊢
    unfold vT at h2
    unfold cellsCov at h1 h3 ⊢
    (refine ret_enter (n := 88) Tryd.func15 rfl rfl rfl ?_)
    (repeat' (first | ((with_reducible refine isOps ?_); first | refine u_move rfl rfl rfl rfl rfl ?_ | refine u_assign rfl rfl rfl rfl rfl ?_ | (refine x_load rfl rfl rfl rfl rfl ?_; refine ⟨_, rfl, ?_⟩) | refine u_field rfl rfl rfl rfl rfl ?_ | refine u_pick rfl rfl rfl rfl rfl rfl ?_ | refine u_not_wanted rfl rfl rfl ?_ | (refine u_cmp rfl rfl rfl rfl rfl rfl rfl (fun h => ?_) (fun h => ?_) <;> (dsimp only [cmpP] at h; (try (exfalso; omega)))) | refine u_gives rfl rfl rfl rfl rfl rfl (fun _ _ q => h1 _ q.below) ?_ | refine u_newsl rfl rfl rfl rfl rfl rfl (fun _ _ q => h2 _ q.below) (fun A' c' => ?_) | (refine u_givesB rfl rfl rfl rfl rfl rfl (fun _ _ q => rspanned2_any th 0 2000 _) (fun h => ?_) (fun h => ?_) <;> skip) | refine u_extract rfl rfl rfl rfl rfl rfl ?_ | refine u_not rfl rfl rfl rfl rfl ?_ | (refine x_store rfl rfl rfl rfl rfl ?_; refine And.intro rfl (And.intro (by first | decide | exact Nat.le_of_ble_eq_true rfl | (simp; omega)) ⟨_, rfl, ?_⟩)) | (refine u_alloc rfl rfl rfl rfl (fun b => ?_)) | (refine u_box rfl rfl rfl rfl rfl rfl (fun b => ?_)) | (refine x_build rfl rfl rfl rfl rfl ?_; refine ⟨_, rfl, ?_⟩)) | (with_reducible first | refine u_seq ?_ | refine u_region ?_ | refine u_nil ?_ | refine u_then_n ?_ | refine u_ret ?_ | refine u_skip ?_ | refine u_then_r ?_) | ((with_reducible refine u_cond_t ?_ ?_); (· exact rfl)) | ((with_reducible refine u_cond_f ?_ ?_); (· exact rfl))))
    · rw [show dx = (zeroCov, 2) by rw [hX, if_neg (fun e => h e.1)]]
      exact u_done (by (exact ResL.cons (by exact res1c rfl (by exact rfl)) (ResL.cons (by exact Res1.tmp rfl) ResL.nil))) ((none, 0), (none, 0), none, 0) trivial rfl (fun _ h => own_nil3)
    · rename_i b3 b5 x1 hne
      obtain ⟨b6, hb6⟩ : ∃ x, x = b := ⟨_, rfl⟩
      subst hb6
      have hep : ep = 0 := by omega
      rw [if_pos ⟨hep, h⟩] at hX
      rcases l with _ | ⟨p, _ | ⟨p2, r⟩⟩
      · rw [show dx = (zeroCov, 6) from hX]
        simp only [List.length_nil]
        (refine u_quiet (by kernel_rfl) (by kernel_rfl) (by kernel_rfl) ?_)
        (repeat' (first | ((with_reducible refine isOpsQ ?_); first | refine q_val (e_move rfl rfl) rfl rfl rfl ?_ | refine q_val (e_pick rfl rfl rfl) rfl rfl rfl ?_ | refine q_not_wanted rfl rfl rfl ?_ | (refine q_cmp rfl rfl rfl rfl rfl rfl rfl (fun h => ?_) (fun h => ?_) <;> (dsimp only [cmpP] at h; (try (exfalso; omega)))) | refine q_val (e_len rfl rfl) rfl rfl rfl ?_) | (with_reducible refine q_nil ?_)))
        all_goals (repeat' (first | ((with_reducible refine isOps ?_); first | refine u_assign rfl rfl rfl rfl rfl ?_ | (refine x_store rfl rfl rfl rfl rfl ?_; refine And.intro rfl (And.intro (by first | decide | exact Nat.le_of_ble_eq_true rfl | (simp; omega)) ⟨_, rfl, ?_⟩)) | (refine x_build rfl rfl rfl rfl rfl ?_; refine ⟨_, rfl, ?_⟩)) | (with_reducible first | refine u_seq ?_ | refine u_region ?_ | refine u_nil ?_ | refine u_then_n ?_ | refine u_ret ?_ | refine u_then_r ?_) | ((with_reducible refine u_cond_t ?_ ?_); (· exact rfl))))
        all_goals exact u_done (by (exact ResL.cons (by exact res1c rfl (by exact rfl)) (ResL.cons (by exact Res1.tmp rfl) ResL.nil))) ((none, 0), (none, 0), none, 0) trivial rfl (fun _ h => own_nil3)
      · obtain ⟨i, rfl, hi⟩ := hpi p (by simp)
        simp only [drillP] at hX
        refine u_slS (xs := [(i : Int)]) (by (repeat (first | exact Take.here _ _ | apply Take.there))) (by simp) ?_
        rintro b9 o9 rfl
        have : GetI [(i : Int)] 0 (i : Int) := ⟨rfl⟩
        simp only [List.length_cons, List.length_nil]
        by_cases hie : i = c.beds.length
        · rw [show dx = (zeroCov, 6) by rw [hX, if_pos (by omega)]]
          (refine u_quiet (by kernel_rfl) (by kernel_rfl) (by kernel_rfl) ?_)
          (repeat' (first | ((with_reducible refine isOpsQ ?_); first | refine q_val (e_move rfl rfl) rfl rfl rfl ?_ | refine q_val (e_load' rfl rfl (by exact rfl)) rfl rfl rfl ?_ | refine q_val (e_field rfl rfl) rfl rfl rfl ?_ | refine q_val (e_pick rfl rfl rfl) rfl rfl rfl ?_ | (refine q_cmp rfl rfl rfl rfl rfl rfl rfl (fun h => ?_) (fun h => ?_) <;> (dsimp only [cmpP] at h; (try (exfalso; omega)))) | refine q_val (e_index (I := 0) rfl rfl rfl (by omega) (by first | omega | (dsimp only; omega))) rfl rfl rfl ?_ | refine q_val (e_len rfl rfl) rfl rfl rfl ?_) | (with_reducible refine q_nil ?_)))
          all_goals (repeat' (first | ((with_reducible refine isOps ?_); first | refine u_assign rfl rfl rfl rfl rfl ?_ | (refine x_store rfl rfl rfl rfl rfl ?_; refine And.intro rfl (And.intro (by first | decide | exact Nat.le_of_ble_eq_true rfl | (simp; omega)) ⟨_, rfl, ?_⟩)) | (refine x_build rfl rfl rfl rfl rfl ?_; refine ⟨_, rfl, ?_⟩)) | (with_reducible first | refine u_seq ?_ | refine u_region ?_ | refine u_nil ?_ | refine u_then_n ?_ | refine u_ret ?_ | refine u_then_r ?_) | ((with_reducible refine u_cond_t ?_ ?_); (· exact rfl))))
          all_goals exact u_done (by (exact ResL.cons (by exact res1c rfl (by exact rfl)) (ResL.cons (by exact Res1.tmp rfl) ResL.nil))) ((none, 0), (none, 0), none, 0) trivial rfl (fun _ h => own_nil3)
        · rw [if_neg (by omega)] at hX
          obtain ⟨z, hz⟩ : ∃ z, c.beds[i]? = some z := ⟨_, List.getElem?_eq_getElem (by omega)⟩
          simp only [Int.toNat_natCast, getD_of hz] at hX
          (refine u_quiet (by kernel_rfl) (by kernel_rfl) (by kernel_rfl) ?_)
          (repeat' (first | ((with_reducible refine isOpsQ ?_); first | refine q_val (e_move rfl rfl) rfl rfl rfl ?_ | refine q_val (e_load' rfl rfl (by exact rfl)) rfl rfl rfl ?_ | refine q_val (e_field rfl rfl) rfl rfl rfl ?_ | refine q_val (e_pick rfl rfl rfl) rfl rfl rfl ?_ | (refine q_cmp rfl rfl rfl rfl rfl rfl rfl (fun h => ?_) (fun h => ?_) <;> (dsimp only [cmpP] at h; (try (exfalso; omega)))) | refine q_val (e_index (I := 0) rfl rfl rfl (by omega) (by first | omega | (dsimp only; omega))) rfl rfl rfl ?_ | refine q_val (e_len rfl rfl) rfl rfl rfl ?_) | (with_reducible refine q_nil ?_)))
          all_goals (repeat' (first | ((with_reducible refine isOps ?_); first | (refine x_load rfl rfl rfl rfl rfl ?_; refine ⟨_, rfl, ?_⟩) | (refine u_call rfl rfl rfl rfl rfl rfl (fun _ _ q => h3 _ q.below) ?_; rintro ⟨⟨A3, m3⟩, ⟨A6, m6⟩, A9, m9⟩ -; dsimp only [List.cons_append, List.nil_append]) | (refine x_store rfl rfl rfl rfl rfl ?_; refine And.intro rfl (And.intro (by first | decide | exact Nat.le_of_ble_eq_true rfl | (simp; omega)) ⟨_, rfl, ?_⟩)) | (refine u_alloc rfl rfl rfl rfl (fun b => ?_))) | (with_reducible first | refine u_seq ?_ | refine u_region ?_ | refine u_nil ?_ | refine u_then_n ?_ | refine u_skip ?_) | ((with_reducible refine u_cond_f ?_ ?_); (· exact rfl))))
          refine u_row_arr (enc := encBed) (xs := c.beds) (by (repeat (first | exact Take.here _ _ | apply Take.there))) (by omega) ?_
          rintro gb rfl
          have : GetI c.beds i z := ⟨hz⟩
          (refine u_quiet (by kernel_rfl) (by kernel_rfl) (by kernel_rfl) ?_)
          (repeat' (first | ((with_reducible refine isOpsQ ?_); first | refine q_val (e_move rfl rfl) rfl rfl rfl ?_ | refine q_val (e_load' rfl rfl (by exact rfl)) rfl rfl rfl ?_ | refine q_val (e_field rfl rfl) rfl rfl rfl ?_ | refine q_val (e_assign rfl rfl) rfl rfl rfl ?_ | refine q_val (e_index (I := 0) rfl rfl rfl (by omega) (by first | omega | (dsimp only; omega))) rfl rfl rfl ?_ | refine q_val (e_index (I := i) rfl rfl rfl (by omega) (by first | omega | (dsimp only; omega))) rfl rfl rfl ?_) | (with_reducible refine q_nil ?_)))
          (repeat' (first | (with_reducible first | refine u_seq ?_ | refine u_then_n ?_)))
          (refine u_chain [] [] [] rfl (by decide) (fun _ h => h) (by kernel_rfl) [[], [false], [true, false], [true, true, false], [true, true, true, false], [true, true, true, true, false], [false, false, false, false, false, false], [true, false, false, false, false, false, false], [true, true, true, true, true, true, true, false], [false, false, false, false, false, false, false, false, false], [true, false, false, false, false, false, false, false, false, false], [true, true, false, false, false, false, false, false, false, false, false], [true, true, true, false, false, false, false, false, false, false, false, false], [true, true, true, true, false, false, false, false, false, false, false, false, false], [false, false, false, false, false, false, false, false, false, false, false, false, false, false], [true, false, false, false, false, false, false, false, false, false, false, false, false, false, false], [true, true, true, true, true, true, true, false, false, false, false, false, false, false, false, false], [true, true, true, true, true, true, true, true, true, true, true, true, true, true, true, true, false], [true, true, true, true, true, true, true, true, true, true, true, true, true, true, true, true, true, true], [true, true, true, true, true, true, true, true, true, true, true, true, true, true, true, true, true, true, true], [true, true, true, true, true, true, true, true, true, true, true, true, true, true, true, true, true, true, true, true]] (by kernel_rfl) (by kernel_rfl) (by kernel_rfl) (by kernel_rfl) (by kernel_rfl) ?_)
          (repeat' (first | (((with_reducible refine c_go ?_ ?_); (· exact rfl); refine ⟨_, fun G => (by (try simp (decide := true) only [vis, see, fltT, entsT, Nat.reduceAdd, Nat.reduceSub, if_true, if_false, List.set_cons_zero, List.set_cons_succ, List.set_nil, List.nil_append, List.cons_append]); rfl), ?_⟩); first | refine c_val _ (fun _ => e_move rfl rfl) (fun _ => rfl) rfl (by first | exact fun _ _ _ => rfl | (intro G G' h; simp (decide := true) only [h])) ?_ | refine c_val _ (fun _ => e_load' rfl rfl (by exact rfl)) (fun _ => rfl) rfl (by first | exact fun _ _ _ => rfl | (intro G G' h; simp (decide := true) only [h])) ?_ | (refine c_isField rfl ?_; refine c_val _ (fun _ => e_field rfl rfl) (fun _ => rfl) rfl (by first | exact fun _ _ _ => rfl | (intro G G' h; simp (decide := true) only [h])) ?_) | refine c_val _ (fun _ => e_nilCheck rfl rfl) (fun _ => rfl) rfl (by first | exact fun _ _ _ => rfl | (intro G G' h; simp (decide := true) only [h])) ?_ | refine c_val _ (fun _ => e_min rfl rfl rfl) (fun _ => rfl) rfl (by first | exact fun _ _ _ => rfl | (intro G G' h; simp (decide := true) only [h])) ?_ | refine c_val _ (fun _ => e_max rfl rfl rfl) (fun _ => rfl) rfl (by first | exact fun _ _ _ => rfl | (intro G G' h; simp (decide := true) only [h])) ?_ | refine c_val _ (fun _ => e_build' rfl rfl (by exact rfl)) (fun _ => rfl) rfl (by first | exact fun _ _ _ => rfl | (intro G G' h; simp (decide := true) only [h])) ?_) | ((with_reducible refine c_tail ?_ ?_); (· exact rfl))))
          intro G2
          simp only [regsT, List.nil_append, List.cons_append, Nat.reduceAdd]
          refine u_own (H' := [.arr encBed 3 gb c.beds, .blk b [.slice A3 c.t.length m3, .slice (some ⟨gb, 0, none⟩) c.beds.length m6, .slice A9 c.hours.length m9, .int .i64 c.wear.lo, .int .i64 c.wear.hi, .int .i64 c.layer.lo, .int .i64 c.layer.hi, .int .i64 c.rate, .int .i64 c.limit, .int .i64 c.base], .row encHour 5 120 (.slice A9 c.hours.length m9) c.hours, .sl encSt 9 A3 c.t, .sl encI 1 (some ⟨b9, o9, none⟩) [(i : Int)], .blk b6 [.slice none 0 0, .slice none 0 0, .slice none 0 0, .int .i64 0, .int .i64 0, .int .i64 0, .int .i64 0, .int .i64 0, .int .i64 0, .int .i64 0], .blk b5 [.int .i64 th.lo, .int .i64 th.hi]]) (fun _ h => h.sub (by (repeat (first | exact Out.nil _ | (refine Out.cons (by (repeat (first | exact Take.here _ _ | apply Take.there))) ?_))))) ?_
          (repeat' (first | ((with_reducible refine isOps ?_); first | refine u_storeA (enc := encBed) (k := 3) (i := i) (j := 0) (z := z) (drillBed z th) rfl rfl rfl rfl rfl rfl rfl rfl (by decide) ?_) | (with_reducible first | refine u_seq ?_ | refine u_nil ?_ | refine u_then_n ?_)))
          have : GetI (c.beds.set i (drillBed z th)) i (drillBed z th) := ⟨List.getElem?_set_self (by omega)⟩
          (refine u_quiet (by kernel_rfl) (by kernel_rfl) (by kernel_rfl) ?_)
          (repeat' (first | ((with_reducible refine isOpsQ ?_); first | refine q_val (e_move rfl rfl) rfl rfl rfl ?_ | refine q_val (e_load' rfl rfl (by exact rfl)) rfl rfl rfl ?_ | refine q_val (e_field rfl rfl) rfl rfl rfl ?_ | (refine q_cmp rfl rfl rfl rfl rfl rfl rfl (fun h => ?_) (fun h => ?_) <;> (dsimp only [cmpP] at h; (try (exfalso; omega)))) | refine q_val (e_nilCheck rfl rfl) rfl rfl rfl ?_) | (with_reducible refine q_nil ?_)))
          · rw [show dx = (zeroCov, 8) by rw [hX, if_pos h]]
            (repeat' (first | ((with_reducible refine isOps ?_); first | refine u_assign rfl rfl rfl rfl rfl ?_ | (refine x_store rfl rfl rfl rfl rfl ?_; refine And.intro rfl (And.intro (by first | decide | exact Nat.le_of_ble_eq_true rfl | (simp; omega)) ⟨_, rfl, ?_⟩)) | (refine x_build rfl rfl rfl rfl rfl ?_; refine ⟨_, rfl, ?_⟩)) | (with_reducible first | refine u_seq ?_ | refine u_region ?_ | refine u_nil ?_ | refine u_then_n ?_ | refine u_ret ?_ | refine u_then_r ?_) | ((with_reducible refine u_cond_t ?_ ?_); (· exact rfl))))
            exact u_done (by (exact ResL.cons (by exact res1c rfl (by exact rfl)) (ResL.cons (by exact Res1.tmp rfl) ResL.nil))) ((none, 0), (none, 0), none, 0) trivial rfl (fun _ h => own_nil3)
          · rw [show dx = ({ c with beds := c.beds.set i (drillBed z th) }, 0) by rw [hX, if_neg h]]
            (repeat' (first | ((with_reducible refine isOps ?_); first | refine u_assign rfl rfl rfl rfl rfl ?_ | (refine x_load rfl rfl rfl rfl rfl ?_; refine ⟨_, rfl, ?_⟩) | (refine x_store rfl rfl rfl rfl rfl ?_; refine And.intro rfl (And.intro (by first | decide | exact Nat.le_of_ble_eq_true rfl | (simp; omega)) ⟨_, rfl, ?_⟩))) | (with_reducible first | refine u_seq ?_ | refine u_region ?_ | refine u_nil ?_ | refine u_then_n ?_ | refine u_ret ?_ | refine u_skip ?_) | ((with_reducible refine u_cond_f ?_ ?_); (· exact rfl))))
            exact u_done (by (exact ResL.cons (by exact res1c rfl (by exact rfl)) (ResL.cons (by exact Res1.tmp rfl) ResL.nil))) ((A3, m3), (some ⟨gb, 0, none⟩, m6), A9, m9) trivial (by simp only [vCov, cellsCov, List.length_set]; rfl) (fun _ h => ((Own.arr_sl (xs := c.beds.set i (drillBed z th)) (by (repeat (first | exact Take.here _ _ | apply Take.there))) h).row_sl (xs := c.hours) (by (repeat (first | exact Take.here _ _ | apply Take.there)))).sub (by (repeat (first | exact Out.nil _ | (refine Out.cons (by (repeat (first | exact Take.here _ _ | apply Take.there))) ?_)))))
      · rw [show dx = (zeroCov, 6) from hX]
        simp only [List.length_cons]
        (refine u_quiet (by kernel_rfl) (by kernel_rfl) (by kernel_rfl) ?_)
        (repeat' (first | ((with_reducible refine isOpsQ ?_); first | refine q_val (e_move rfl rfl) rfl rfl rfl ?_ | refine q_val (e_pick rfl rfl rfl) rfl rfl rfl ?_ | refine q_not_wanted rfl rfl rfl ?_ | (refine q_cmp rfl rfl rfl rfl rfl rfl rfl (fun h => ?_) (fun h => ?_) <;> (dsimp only [cmpP] at h; (try (exfalso; omega)))) | refine q_val (e_len rfl rfl) rfl rfl rfl ?_) | (with_reducible refine q_nil ?_)))
        all_goals (repeat' (first | ((with_reducible refine isOps ?_); first | refine u_assign rfl rfl rfl rfl rfl ?_ | (refine x_store rfl rfl rfl rfl rfl ?_; refine And.intro rfl (And.intro (by first | decide | exact Nat.le_of_ble_eq_true rfl | (simp; omega)) ⟨_, rfl, ?_⟩)) | (refine x_build rfl rfl rfl rfl rfl ?_; refine ⟨_, rfl, ?_⟩)) | (with_reducible first | refine u_seq ?_ | refine u_region ?_ | refine u_nil ?_ | refine u_then_n ?_ | refine u_ret ?_ | refine u_then_r ?_) | ((with_reducible refine u_cond_t ?_ ?_); (· exact rfl))))
        all_goals exact u_done (by (exact ResL.cons (by exact res1c rfl (by exact rfl)) (ResL.cons (by exact Res1.tmp rfl) ResL.nil))) ((none, 0), (none, 0), none, 0) trivial rfl (fun _ h => own_nil3)
    · rw [show dx = (zeroCov, 2) by rw [hX, if_neg (fun e => by rw [e.2] at h; cases h)]]
      exact u_done (by (exact ResL.cons (by exact res1c rfl (by exact rfl)) (ResL.cons (by exact Res1.tmp rfl) ResL.nil))) ((none, 0), (none, 0), none, 0) trivial rfl (fun _ h => own_nil3)
  · have hX : drillX c a th = (zeroCov, errI c) := by unfold drillX; rw [if_neg h0]
    rw [hX]
    have e1 : vCov c A ca B cb C cc = .agg (cellsCov c A ca B cb C cc).toArray := rfl
    rw [e1] at h1 ⊢
    generalize errI c = e at *
    unfold cellsCov at h1 ⊢
    (refine ret_enter (n := 88) Tryd.func15 rfl rfl rfl ?_)
    (repeat' (first | ((with_reducible refine isOps ?_); first | refine u_move rfl rfl rfl rfl rfl ?_ | refine u_assign rfl rfl rfl rfl rfl ?_ | (refine x_load rfl rfl rfl rfl rfl ?_; refine ⟨_, rfl, ?_⟩) | (refine u_cmp rfl rfl rfl rfl rfl rfl rfl (fun h => ?_) (fun h => ?_) <;> (dsimp only [cmpP] at h; (try (exfalso; omega)))) | refine u_gives rfl rfl rfl rfl rfl rfl (fun _ _ q => h1 _ q.below) ?_ | (refine x_store rfl rfl rfl rfl rfl ?_; refine And.intro rfl (And.intro (by first | decide | exact Nat.le_of_ble_eq_true rfl | (simp; omega)) ⟨_, rfl, ?_⟩)) | (refine u_alloc rfl rfl rfl rfl (fun b => ?_)) | (refine u_box rfl rfl rfl rfl rfl rfl (fun b => ?_)) | (refine x_build rfl rfl rfl rfl rfl ?_; refine ⟨_, rfl, ?_⟩)) | (with_reducible first | refine u_seq ?_ | refine u_region ?_ | refine u_nil ?_ | refine u_then_n ?_ | refine u_ret ?_ | refine u_then_r ?_) | ((with_reducible refine u_cond_t ?_ ?_); (· exact rfl))))
    exact u_done (by (exact ResL.cons (by exact res1c rfl (by exact rfl)) (ResL.cons (by exact Res1.tmp rfl) ResL.nil))) ((none, 0), (none, 0), none, 0) trivial rfl (fun _ h => own_nil3)
end Go.Proofs.YtdigopgncfhiaaaDoor.Two
