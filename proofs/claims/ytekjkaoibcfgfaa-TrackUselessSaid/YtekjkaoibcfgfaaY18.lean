/- The law TrackUseless returns true. -/
import Derived.Test.YtekjkaoibcfgfaaY9
import Derived.Test.YtekjkaoibcfgfaaY7
import Derived.Test.YtekjkaoibcfgfaaZ6
namespace Go.Proofs.Ytekjkaoibcfgfaa
open Go.RowKit
set_option maxRecDepth 20000
set_option linter.unusedSimpArgs false
set_option linter.unusedVariables false

theorem run_eql_vme (s t : Me) (w : World) : (binOp .eql 73 (vMe s) (vMe t)).run Try.prog w = .ok (.bool (eqMe s t)) w := by
  have := run_eqIn_me 9997 s t w
  unfold vMe at this ⊢
  rw [run_eql_struct, this]; rfl
section
variable {P : Program} {w0 : World} {n : Nat} {d : List Deferred} {R : List (Nat × Value)} {H : List Ent} {Q : Exit → Act → World → Prop} {ops : Array Oper} {rest : List Oper} {o : Oper} {t : Tmp} {x y : Operand}
theorem u_eqme (s u : Me) {T' : TypeId} (hop : o.op = .binOp .eql 73 x y T') (hw : want R ops o = some true) (hd : o.dst = some t) (ht : Nat.blt t n = true) (hx : evR R x = some (vMe s)) (hy : evR R y = some (vMe u))
    (h1 : s = u → U w0 n d ((t, .bool true) :: R) H (wpList Try.prog ops Q rest)) (h2 : ¬ s = u → U w0 n d ((t, .bool false) :: R) H (wpList Try.prog ops Q rest)) : U w0 n d R H (wpList Try.prog ops Q (o :: rest)) :=
  u_eql hop hw hd ht hx hy (fun w => gd_me _ _ _ _ _ w) (fun w => run_eql_vme s u w) (fun h => h1 (by simpa [eqMe] using h)) (fun h => h2 (by simpa [eqMe] using h))
theorem run_eqIn_bool {P : Program} {T : TypeId} {s : Nat} {g : Bool} [i1 : TyI P T .bool s g] (a b : Bool) (w : World) : (Op.equalIn Op.maxDepth T (.bool a) (.bool b)).run P w = .ok (a == b) w := by
  show (Op.equalIn (9999 + 1) T (.bool a) (.bool b)).run P w = _
  have e := run_underlying i1.und w
  unfold Op.equalIn
  simp [e]
theorem u_neb {T T' : TypeId} {s : Nat} {g : Bool} {a b : Bool} (hop : o.op = .binOp .neq T x y T') [i1 : TyI P T .bool s g] (hw : want R ops o = some true) (hd : o.dst = some t) (ht : Nat.blt t n = true) (hx : evR R x = some (.bool a)) (hy : evR R y = some (.bool b))
    (h : U w0 n d ((t, .bool (a != b)) :: R) H (wpList P ops Q rest)) : U w0 n d R H (wpList P ops Q (o :: rest)) :=
  u_val hw hd ht (fun a' w q => by
    have e := run_eqIn_bool (P := P) (T := T) a b w
    unfold execOp; rw [hop]
    cases a <;> cases b <;> simp [q.ev hx, q.ev hy, eqGuard, binOp, Op.equal, e]) h
end
namespace Two
set_option maxHeartbeats 4000000 in
theorem trackUseless_any (t : List St) (A : Option Addr) (ca : Nat) (l : List Me) (B : Option Addr) (cb : Nat) (turn : Int) (w : World) (ha : SlAt encSt 9 w A t) (hs : SlAt encMe 5 w B l) (hcap : l.length ≤ cb) (hB : ∀ b o, B = some ⟨b, o, none⟩ → b < w.heap.size) (fa : FitT t) (fm : FitMs l) (hw : 0 ≤ turn ∧ turn ≤ 255) :
    Gv Try.prog 14 [.agg #[.slice A t.length ca], .slice B l.length cb, .int .u8 turn] w (.bool true) := by
  unfold Gv
  have hR := fun W (h : Below w.heap.size w W) => ready_any t A ca W (ha.below h) fa
  cases hr : readyB t
  · rw [hr] at hR
    (refine ret_enter (n := 190) Try.func14 rfl rfl rfl ?_)
    (repeat' (first | ((with_reducible refine isOps ?_); first | refine u_move rfl rfl rfl rfl rfl ?_ | refine u_assign rfl rfl rfl rfl rfl ?_ | (refine x_load rfl rfl rfl rfl rfl ?_; refine ⟨_, rfl, ?_⟩) | refine u_pick rfl rfl rfl rfl rfl rfl ?_ | refine u_not_wanted rfl rfl rfl ?_ | refine u_gives rfl rfl rfl rfl rfl rfl (fun _ _ q => alive_any _) ?_ | refine u_gives rfl rfl rfl rfl rfl rfl (fun _ _ q => hR _ q.below) ?_ | refine u_not rfl rfl rfl rfl rfl ?_ | (refine u_box rfl rfl rfl rfl rfl rfl (fun b => ?_))) | (with_reducible first | refine u_seq ?_ | refine u_region ?_ | refine u_nil ?_ | refine u_then_n ?_ | refine u_ret ?_ | refine u_then_r ?_) | ((with_reducible refine u_cond_t ?_ ?_); (· exact rfl))))
    all_goals exact u_done (by (exact ResL.cons (by exact Res1.tmp rfl) ResL.nil)) () trivial rfl (fun _ h => h.sub (by (repeat (first | exact Out.nil _ | (refine Out.cons (by (repeat (first | exact Take.here _ _ | apply Take.there))) ?_)))))
  rw [hr] at hR
  have hv := readyB_ok hr
  have hlen := valid_len hv
  have hM := fun W (h : Below w.heap.size w W) => rMeasures_any t A ca l B cb W (hs.below h) fm (by omega)
  cases hm : msOk t.length l
  · rw [hm] at hM
    (refine ret_enter (n := 190) Try.func14 rfl rfl rfl ?_)
    (repeat' (first | ((with_reducible refine isOps ?_); first | refine u_move rfl rfl rfl rfl rfl ?_ | refine u_assign rfl rfl rfl rfl rfl ?_ | (refine x_load rfl rfl rfl rfl rfl ?_; refine ⟨_, rfl, ?_⟩) | refine u_pick rfl rfl rfl rfl rfl rfl ?_ | refine u_not_wanted rfl rfl rfl ?_ | refine u_gives rfl rfl rfl rfl rfl rfl (fun _ _ q => alive_any _) ?_ | refine u_gives rfl rfl rfl rfl rfl rfl (fun _ _ q => hR _ q.below) ?_ | refine u_gives rfl rfl rfl rfl rfl rfl (fun _ _ q => hM _ q.below) ?_ | refine u_not rfl rfl rfl rfl rfl ?_ | (refine u_box rfl rfl rfl rfl rfl rfl (fun b => ?_))) | (with_reducible first | refine u_seq ?_ | refine u_region ?_ | refine u_nil ?_ | refine u_then_n ?_ | refine u_ret ?_ | refine u_then_r ?_) | ((with_reducible refine u_cond_t ?_ ?_); (· exact rfl))))
    all_goals exact u_done (by (exact ResL.cons (by exact Res1.tmp rfl) ResL.nil)) () trivial rfl (fun _ h => h.sub (by (repeat (first | exact Out.nil _ | (refine Out.cons (by (repeat (first | exact Take.here _ _ | apply Take.there))) ?_)))))
  rw [hm] at hM
  have hml := (msOk_all hm).2
  have hN := fun W (h : Below w.heap.size w W) => narrow_any t A ca l B cb W (ha.below h) (hs.below h) (fun b o e => Nat.lt_of_lt_of_le (hB b o e) h.size) fa fm (by omega) (by omega)
  have hU := fun W (h : Below w.heap.size w W) => useless_any t A ca l B cb W (ha.below h) (hs.below h) (fun b o e => Nat.lt_of_lt_of_le (hB b o e) h.size) fa fm (by omega) (by omega)
  by_cases he : errN t l = 0
  rotate_left
  · have he8 : errN t l = 8 := by
      rw [errN_yes hv hm] at he ⊢
      cases h : rnB t l <;> simp [h] at he ⊢
    have e1 : uselT t l = [] := by simp [uselT, he]
    rw [he8] at hN
    rw [he8, e1] at hU
    have l0 : ([] : List Int).length = 0 := rfl
    (refine ret_enter (n := 190) Try.func14 rfl rfl rfl ?_)
    (repeat' (first | ((with_reducible refine isOps ?_); first | refine u_move rfl rfl rfl rfl rfl ?_ | refine u_assign rfl rfl rfl rfl rfl ?_ | (refine x_load rfl rfl rfl rfl rfl ?_; refine ⟨_, rfl, ?_⟩) | refine u_pick rfl rfl rfl rfl rfl rfl ?_ | (refine u_cmp rfl rfl rfl rfl rfl rfl rfl (fun h => ?_) (fun h => ?_) <;> (dsimp only [cmpP] at h; (try (exfalso; omega)))) | refine u_gives rfl rfl rfl rfl rfl rfl (fun _ _ q => alive_any _) ?_ | refine u_gives rfl rfl rfl rfl rfl rfl (fun _ _ q => hR _ q.below) ?_ | refine u_gives rfl rfl rfl rfl rfl rfl (fun _ _ q => hM _ q.below) ?_ | refine u_newsl rfl rfl rfl rfl rfl rfl (fun _ _ q => hN _ q.below) (fun A' c' => ?_) | refine u_newsl rfl rfl rfl rfl rfl rfl (fun _ _ q => hU _ q.below) (fun A' c' => ?_) | refine u_extract rfl rfl rfl rfl rfl rfl ?_ | refine u_not rfl rfl rfl rfl rfl ?_ | refine u_len rfl rfl rfl rfl rfl ?_ | (refine x_store rfl rfl rfl rfl rfl ?_; refine And.intro rfl (And.intro (by first | decide | exact Nat.le_of_ble_eq_true rfl | (simp; omega)) ⟨_, rfl, ?_⟩)) | (refine u_alloc rfl rfl rfl rfl (fun b => ?_)) | (refine u_box rfl rfl rfl rfl rfl rfl (fun b => ?_))) | (with_reducible first | refine u_seq ?_ | refine u_region ?_ | refine u_nil ?_ | refine u_then_n ?_ | refine u_ret ?_ | refine u_skip ?_ | refine u_then_r ?_) | ((with_reducible refine u_cond_t ?_ ?_); (· exact rfl)) | ((with_reducible refine u_cond_f ?_ ?_); (· exact rfl))))
    all_goals exact u_done (by (exact ResL.cons (by exact Res1.tmp rfl) ResL.nil)) () trivial rfl (fun _ h => h.sub (by (repeat (first | exact Out.nil _ | (refine Out.cons (by (repeat (first | exact Take.here _ _ | apply Take.there))) ?_)))))
  have e1 : uselT t l = picks (fun i m => uselessP t l i m) l := by simp [uselT, he]
  rw [he] at hN
  rw [he, e1] at hU
  obtain ⟨nv, nn, -⟩ := narrow_again hv hm he
  have hnl : (nT t l).length = t.length := nn.1
  have hyes := fun i (h : i < l.length) h2 => picks_yes (p := fun i m => uselessP t l i m) h h2
  have hno := fun i (h : i < l.length) h2 x hx => picks_no (p := fun i m => uselessP t l i m) (x := x) h h2 hx
  have hpick : picks (fun i m => uselessP t l i m) l = picksTo (fun i m => uselessP t l i m) l l.length := rfl
  have hpl2 := picksTo_len (fun i m => uselessP t l i m) l l.length
  rw [← hpick] at hpl2
  have hN2 := fun i l' (e : l' = l.eraseIdx i) W B2 c2 (h : Below w.heap.size w W) (hs2 : SlAt encMe 5 W B2 l') (hB2 : ∀ b o, B2 = some ⟨b, o, none⟩ → b < W.heap.size) => (show NewSl encSt 9 (nT t (l.eraseIdx i)) (fun v => .tuple #[.agg #[v], .int .i64 (errN t (l.eraseIdx i))]) Try.prog 39 [.agg #[.slice A t.length ca], .slice B2 l'.length c2] W by
    subst e
    exact narrow_any t A ca (l.eraseIdx i) B2 c2 W (ha.below h) hs2 hB2 fa (fitM_ok (errN_ok hv hm i)) (by omega) (by have := List.length_eraseIdx_le l i; omega))
  have hN4 := fun W (l' : List Me) B2 c2 (hx : msOk t.length l' = true) (h : Below w.heap.size w W) (hs2 : SlAt encMe 5 W B2 l') (hB2 : ∀ b o, B2 = some ⟨b, o, none⟩ → b < W.heap.size) => narrow_any t A ca l' B2 c2 W (ha.below h) hs2 hB2 fa (fitM_ok hx) (by omega) (by have := (msOk_all hx).2; omega)
  obtain ⟨r, hr1, hmsR, hpR⟩ : ∃ r : Nat, (l.length ≠ 0 → turn % (l.length : Int) = (r : Int) ∧ r < l.length) ∧ msOk t.length (rotTo l r l.length) = true ∧ (∀ m, m ∈ rotTo l r l.length ↔ m ∈ l) := by
    by_cases h0 : l.length = 0
    · refine ⟨0, fun h => absurd h0 h, ?_⟩
      have e0 := List.eq_nil_of_length_eq_zero h0
      subst e0
      exact ⟨hm, fun m => by simp [rotTo]⟩
    · obtain ⟨r, hr⟩ : ∃ r : Nat, turn % (l.length : Int) = r := Int.eq_ofNat_of_zero_le (Int.emod_nonneg _ (by omega))
      have hrl : r < l.length := by
        have := Int.emod_lt_of_pos turn (show (0 : Int) < l.length by omega)
        omega
      exact ⟨r, fun _ => ⟨hr, hrl⟩, rot_ok hrl hm, rot_mem hrl⟩
  obtain ⟨er, nr⟩ := narrow_perm hv hm hmsR hpR
  rw [he] at er
  have hN5 := fun W B2 c2 h h2 h3 => hN4 W (rotTo l r l.length) B2 c2 hmsR h h2 h3
  rw [er, nr] at hN5
  clear hN4 er nr hpR
  have hTO := fun i => take_out hv hm he i
  have hUI := fun i x => useless_is hv hm i x
  have hTW := fun i x (hx : l[i]? = some x) h => twice_useless hv hm hx h
  generalize hpp : picks (fun i m => uselessP t l i m) l = pl at *
  generalize nT t l = N at *
  (refine ret_enter (n := 190) Try.func14 rfl rfl rfl ?_)
  (repeat' (first | ((with_reducible refine isOps ?_); first | refine u_move rfl rfl rfl rfl rfl ?_ | refine u_assign rfl rfl rfl rfl rfl ?_ | (refine x_load rfl rfl rfl rfl rfl ?_; refine ⟨_, rfl, ?_⟩) | refine u_pick rfl rfl rfl rfl rfl rfl ?_ | (refine u_cmp rfl rfl rfl rfl rfl rfl rfl (fun h => ?_) (fun h => ?_) <;> (dsimp only [cmpP] at h; (try (exfalso; omega)))) | refine u_gives rfl rfl rfl rfl rfl rfl (fun _ _ q => alive_any _) ?_ | refine u_gives rfl rfl rfl rfl rfl rfl (fun _ _ q => hR _ q.below) ?_ | refine u_gives rfl rfl rfl rfl rfl rfl (fun _ _ q => hM _ q.below) ?_ | refine u_newsl rfl rfl rfl rfl rfl rfl (fun _ _ q => hN _ q.below) (fun A' c' => ?_) | refine u_newsl rfl rfl rfl rfl rfl rfl (fun _ _ q => hU _ q.below) (fun A' c' => ?_) | refine u_extract rfl rfl rfl rfl rfl rfl ?_ | refine u_not rfl rfl rfl rfl rfl ?_ | refine u_len rfl rfl rfl rfl rfl ?_ | (refine x_store rfl rfl rfl rfl rfl ?_; refine And.intro rfl (And.intro (by first | decide | exact Nat.le_of_ble_eq_true rfl | (simp; omega)) ⟨_, rfl, ?_⟩)) | (refine u_alloc rfl rfl rfl rfl (fun b => ?_)) | (refine u_box rfl rfl rfl rfl rfl rfl (fun b => ?_))) | (with_reducible first | refine u_seq ?_ | refine u_region ?_ | refine u_nil ?_ | refine u_then_n ?_ | refine u_skip ?_ | refine u_block ?_) | ((with_reducible refine u_cond_f ?_ ?_); (· exact rfl))))
  rename_i b3 A9 c9 _
  obtain ⟨b8, hb8⟩ : ∃ x, x = b := ⟨b, rfl⟩
  subst hb8
  obtain ⟨Ap, hAp⟩ : ∃ x, x = A' := ⟨A', rfl⟩
  subst hAp
  obtain ⟨cp, hcp⟩ : ∃ x, x = c' := ⟨c', rfl⟩
  subst hcp
  refine u_loop (ι := Nat) (fun i => i ≤ l.length) (fun i => [(1, .slice B l.length cb), (2, .int .u8 turn), (3, .pointer (some ⟨b3, 0, none⟩)), (7, .bool true), (8, .pointer (some ⟨b8, 0, none⟩)), (10, .slice Ap pl.length cp), (12, .int .i64 ((picksTo (fun i m => uselessP t l i m) l i).length : Int)), (67, .slice B l.length cb), (68, .int .i64 (l.length : Int)), (69, .int .i64 (i : Int))]) (fun _ => [.sl encI 1 Ap pl, .blk b8 [.slice A9 N.length c9], .sl encSt 9 A9 N, .blk b3 [.slice A t.length ca]]) (fun i => l.length - i) 0 (Nat.zero_le _) (by (first | exact fun _ _ h => lk_nil h | (repeat (first | exact (fun _ _ h => lk_nil h) | (refine lk_sub rfl ?_))))) (by (repeat (first | exact Out.nil _ | (refine Out.cons (by (repeat (first | exact Take.here _ _ | apply Take.there))) ?_)))) ?_
  intro i hi
  by_cases hlt : i < l.length
  · obtain ⟨x, hx⟩ : ∃ x, l[i]? = some x := ⟨_, List.getElem?_eq_getElem hlt⟩
    have hL : ([] ++ (l.take i).drop 0) ++ (l.take l.length).drop (i + 1) = l.eraseIdx i := by
      rw [List.eraseIdx_eq_take_drop_succ]; simp
    have k1 : i - 0 = ((l.take i).drop 0).length := by simp; omega
    have k2 : l.length - (i + 1) = ((l.take l.length).drop (i + 1)).length := by simp
    obtain ⟨o1, o2⟩ := hTO i
    have hN3 := hN2 i _ hL
    rw [o1] at hN3
    have hui := hUI i x
    have htw := hTW i x hx
    have lE := o2.1
    generalize nT t (l.eraseIdx i) = E at *
    obtain ⟨bb, ob, rfl, _⟩ := hs.at_ hlt
    have : InS w bb ob encMe 5 l := ⟨hs⟩
    have : GetI l i x := ⟨hx⟩
    (repeat' (first | ((with_reducible refine isOps ?_); first | refine u_move rfl rfl rfl rfl rfl ?_ | refine u_assign rfl rfl rfl rfl rfl ?_ | (refine x_load rfl rfl rfl rfl rfl ?_; refine ⟨_, rfl, ?_⟩) | (refine u_cmp rfl rfl rfl rfl rfl rfl rfl (fun h => ?_) (fun h => ?_) <;> (dsimp only [cmpP] at h; (try (exfalso; omega)))) | refine u_index rfl rfl rfl rfl rfl rfl rfl (by omega) ?_ | (refine x_store rfl rfl rfl rfl rfl ?_; refine And.intro rfl (And.intro (by first | decide | exact Nat.le_of_ble_eq_true rfl | (simp; omega)) ⟨_, rfl, ?_⟩)) | (refine u_alloc rfl rfl rfl rfl (fun b => ?_))) | (with_reducible first | refine u_seq ?_ | refine u_region ?_ | refine u_nil ?_ | refine u_then_n ?_ | refine u_skip ?_ | refine u_block ?_) | ((with_reducible refine u_cond_t ?_ ?_); (· exact rfl))))
    obtain ⟨b14, hb14⟩ : ∃ x, x = b := ⟨b, rfl⟩
    subst hb14
    (refine u_chain [(1, 5), (5, 10), (15, 16)] [] (by decide) (fun _ h => h) (by kernel_rfl) [[], [false], [false, false], [false, false, false], [true, true, false, false], [true, true, true, true, false], [false, false, false, false, false, false], [false, false, false, false, false, false, false], [true, false, false, false, false, false, false, false], [true, true, true, false, false, false, false, false, false], [true, true, true, true, true, true, true, true, true, false], [true, true, true, true, true, true, true, true, true, true, true], [true, true, true, true, true, true, true, true, true, true, true, true], [true, true, true, true, true, true, true, true, true, true, true, true, true], [false, true, true, true, true, true, true, true, true, true, true, true, true, true], [false, false, false, false, false, false, false, false, false, false, false, false, false, false, false], [true, false, true, true, true, true, true, true, true, true, true, true, true, true, true, true], [true, true, true, true, true, true, true, true, true, true, true, true, true, true, true, true, true]] (by kernel_rfl) (by kernel_rfl) (by kernel_rfl) ?_)
    (repeat' (first | (((with_reducible refine c_go ?_ ?_); (· exact rfl); refine ⟨_, fun G => (by (try simp (decide := true) only [vis, fltT, entsT, Nat.reduceAdd, Nat.reduceSub, if_true, if_false, List.set_cons_zero, List.set_cons_succ, List.set_nil, List.nil_append, List.cons_append]); rfl), ?_⟩); first | refine c_val _ (fun _ => e_move rfl rfl) (fun _ => rfl) rfl (by first | exact fun _ _ _ => rfl | (intro G G' h; simp (decide := true) only [h])) ?_ | refine c_val _ (fun _ => e_load' rfl rfl (by exact rfl)) (fun _ => rfl) rfl (by first | exact fun _ _ _ => rfl | (intro G G' h; simp (decide := true) only [h])) ?_ | refine c_val _ (fun _ => e_assign rfl rfl) (fun _ => rfl) rfl (by first | exact fun _ _ _ => rfl | (intro G G' h; simp (decide := true) only [h])) ?_ | refine c_buildNil encMe rfl (fun _ => rfl) rfl ?_ | refine c_val _ (fun _ => e_slice 0 i rfl rfl rfl rfl rfl rfl (by omega) (by omega)) (fun _ => rfl) rfl (by exact fun _ _ _ => rfl) ?_ | refine c_val _ (fun _ => e_slice (i + 1) l.length rfl rfl rfl rfl rfl rfl (by omega) (by omega)) (fun _ => rfl) rfl (by exact fun _ _ _ => rfl) ?_ | refine c_newsl rfl (fun _ => rfl) rfl (fun _ => rfl) (fun _ => rfl) (fun _ _ _ q => hN3 _ _ _ q.below (row_at q.own (by (repeat (first | exact Take.here _ _ | apply Take.there)))) (row_foot2 q.own (by (repeat (first | exact Take.here _ _ | apply Take.there))))) ?_ | refine c_val _ (fun _ => e_extract rfl rfl rfl) (fun _ => rfl) rfl (by first | exact fun _ _ _ => rfl | (intro G G' h; simp (decide := true) only [h])) ?_ | refine c_val _ (fun _ => e_add1 rfl rfl rfl (by omega)) (fun _ => rfl) rfl (by first | exact fun _ _ _ => rfl | (intro G G' h; simp (decide := true) only [h])) ?_ | refine c_alloc rfl (fun _ => rfl) rfl ?_) | (refine c_appendT (enc := encMe) (xs := []) ((l.take i).drop 0) 1 (by decide) rfl rfl (fun _ => rfl) rfl (fun _ => rfl) (fun _ => rfl) (fun _ => rfl) k1 (fun G => (by (try simp (decide := true) only [vis, fltT, entsT, Nat.reduceAdd, Nat.reduceSub, if_true, if_false, List.set_cons_zero, List.set_cons_succ, List.set_nil, List.nil_append, List.cons_append]); rfl)) (fun _ W hW _ => sl_part (hs.below hW) (by omega) (by omega)) ⟨by simp; omega, by decide⟩ ?_) | (refine c_appendT (enc := encMe) (xs := [] ++ (l.take i).drop 0) ((l.take l.length).drop (i + 1)) 5 (by decide) rfl rfl (fun _ => rfl) rfl (fun _ => rfl) (fun _ => rfl) (fun _ => rfl) k2 (fun G => (by (try simp (decide := true) only [vis, fltT, entsT, Nat.reduceAdd, Nat.reduceSub, if_true, if_false, List.set_cons_zero, List.set_cons_succ, List.set_nil, List.nil_append, List.cons_append]); rfl)) (fun _ W hW _ => sl_part (hs.below hW) (by omega) (by omega)) ⟨by simp; omega, by decide⟩ ?_) | (refine c_storeT (gx := fun G => (G 15).g) (cs := fun _ => [.slice none 0 0]) (cs' := fun G => [.slice (G 11).A E.length (G 11).m]) 15 (by decide) rfl rfl (fun _ => rfl) rfl (fun _ => rfl) (fun _ => rfl) (fun _ => rfl) (fun _ => rfl) (fun _ => rfl) (fun _ => rfl) (fun _ => rfl) (by intro G G' h; simp (decide := true) only [h]) (by intro G G' h; simp (decide := true) only [h]) ?_) | (with_reducible refine c_nil ?_)))
    intro G
    simp only [regsT, List.nil_append, List.cons_append]
    refine u_own (H' := [.blk (G 15).g [.slice (G 11).A E.length (G 11).m], .sl encSt 9 (G 11).A E, .row encMe 5 73 (.slice (G 10).A ((l.take i).drop 0 ++ (l.take l.length).drop (i + 1) : List Me).length (G 10).m) ((l.take i).drop 0 ++ (l.take l.length).drop (i + 1) : List Me), .blk b14 (encMe x), .sl encI 1 Ap pl, .blk b8 [.slice A9 N.length c9], .sl encSt 9 A9 N, .blk b3 [.slice A t.length ca]]) (fun _ h => h) ?_
    generalize (G 11).A = A11
    generalize (G 11).m = c11
    generalize (G 15).g = b15
    cases hu : uselessP t l i x
    · have hso : soAt (fun i m => uselessP t l i m) l i = false := by simp [soAt, hx, hu]
      have hno1 := hno i hlt hso
      have hpt := picksTo_no (p := fun i m => uselessP t l i m) hso
      rw [hu] at hui
      generalize picksTo (fun i m => uselessP t l i m) l i = pi at *
      by_cases hat : pi.length < pl.length
      · obtain ⟨y, hy⟩ : ∃ y, pl[pi.length]? = some y := ⟨_, List.getElem?_eq_getElem hat⟩
        have hyi := hno1 y hy
        have : GetI pl pi.length y := ⟨hy⟩
        refine u_slS (xs := pl) (by (repeat (first | exact Take.here _ _ | apply Take.there))) (by omega) ?_
        rintro bp op rfl
        (repeat' (first | ((with_reducible refine isOps ?_); first | refine u_move rfl rfl rfl rfl rfl ?_ | refine u_assign rfl rfl rfl rfl rfl ?_ | (refine x_load rfl rfl rfl rfl rfl ?_; refine ⟨_, rfl, ?_⟩) | refine u_pick rfl rfl rfl rfl rfl rfl ?_ | (refine u_cmp rfl rfl rfl rfl rfl rfl rfl (fun h => ?_) (fun h => ?_) <;> (dsimp only [cmpP] at h; (try (exfalso; omega)))) | refine u_index rfl rfl rfl rfl rfl rfl rfl (by omega) ?_ | refine u_len rfl rfl rfl rfl rfl ?_) | (with_reducible first | refine u_seq ?_ | refine u_region ?_ | refine u_nil ?_ | refine u_then_n ?_ | refine u_skip ?_ | refine u_block ?_) | ((with_reducible refine u_cond_f ?_ ?_); (· exact rfl))))
        refine u_loop (ι := Nat) (fun k => k ≤ l.length) (fun k => [(1, .slice (some ⟨bb, ob, none⟩) l.length cb), (2, .int .u8 turn), (3, .pointer (some ⟨b3, 0, none⟩)), (7, .bool true), (8, .pointer (some ⟨b8, 0, none⟩)), (10, .slice (some ⟨bp, op, none⟩) pl.length cp), (12, .int .i64 ((pi.length : Nat) : Int)), (67, .slice (some ⟨bb, ob, none⟩) l.length cb), (68, .int .i64 (l.length : Int)), (69, .int .i64 (i : Int)), (13, .int .i64 (i : Int)), (14, .pointer (some ⟨b14, 0, none⟩)), (15, .pointer (some ⟨b15, 0, none⟩)), (16, .int .i64 0), (17, .bool false), (18, .bool (twiceTo l i k)), (104, .slice (some ⟨bb, ob, none⟩) l.length cb), (105, .int .i64 (l.length : Int)), (106, .int .i64 (k : Int))]) (fun _ => [.blk b15 [.slice A11 E.length c11], .sl encSt 9 A11 E, .blk b14 (encMe x), .sl encI 1 (some ⟨bp, op, none⟩) pl, .blk b8 [.slice A9 N.length c9], .sl encSt 9 A9 N, .blk b3 [.slice A t.length ca]]) (fun k => l.length - k) 0 (Nat.zero_le _) (by simp only [twiceTo_zero]; (first | exact fun _ _ h => lk_nil h | (repeat (first | exact (fun _ _ h => lk_nil h) | (refine lk_sub rfl ?_))))) (by (repeat (first | exact Out.nil _ | (refine Out.cons (by (repeat (first | exact Take.here _ _ | apply Take.there))) ?_)))) ?_
        intro k hk
        by_cases hlk : k < l.length
        · obtain ⟨y2, hy2⟩ : ∃ y, l[k]? = some y := ⟨_, List.getElem?_eq_getElem hlk⟩
          have : GetI l k y2 := ⟨hy2⟩
          have e0 := twiceTo_succ (l := l) (i := i) (k := k)
          have e1 : ∀ z : Bool, twiceTo l i k = z → (z = true → twiceTo l i (k + 1) = true) ∧ (¬ (k : Int) = i → x = y2 → twiceTo l i (k + 1) = true) ∧ (¬ x = y2 → twiceTo l i (k + 1) = z) ∧ ((k : Int) = i → twiceTo l i (k + 1) = z) := by
            intro z hz
            rw [e0, hz, hx, hy2]
            refine ⟨fun h => by simp [h], fun h h2 => ?_, fun h => by simp [h], fun h => ?_⟩
            · have : k ≠ i := fun e => h (by rw [e])
              simp [this, h2]
            · have : k = i := by omega
              simp [this]
          cases hz : twiceTo l i k
          all_goals
            obtain ⟨g1, g2, g3, g4⟩ := e1 _ hz
            (repeat' (first | ((with_reducible refine isOps ?_); first | refine u_move rfl rfl rfl rfl rfl ?_ | refine u_assign rfl rfl rfl rfl rfl ?_ | (refine x_load rfl rfl rfl rfl rfl ?_; refine ⟨_, rfl, ?_⟩) | refine u_pick rfl rfl rfl rfl rfl rfl ?_ | refine u_not_wanted rfl rfl rfl ?_ | (refine u_cmp rfl rfl rfl rfl rfl rfl rfl (fun h => ?_) (fun h => ?_) <;> (dsimp only [cmpP] at h; (try (exfalso; omega)))) | refine u_eqme x y2 rfl rfl rfl rfl (by exact rfl) (by exact rfl) (fun h => ?_) (fun h => ?_) | refine u_add1 rfl rfl rfl rfl rfl rfl (by omega) ?_ | refine u_index rfl rfl rfl rfl rfl rfl rfl (by omega) ?_ | (refine x_store rfl rfl rfl rfl rfl ?_; refine And.intro rfl (And.intro (by first | decide | exact Nat.le_of_ble_eq_true rfl | (simp; omega)) ⟨_, rfl, ?_⟩)) | (refine u_alloc rfl rfl rfl rfl (fun b => ?_))) | (with_reducible first | refine u_seq ?_ | refine u_region ?_ | refine u_nil ?_ | refine u_then_n ?_ | refine u_skip ?_ | refine u_block ?_ | refine u_in_n ?_) | ((with_reducible refine u_cond_t ?_ ?_); (· exact rfl))))
            all_goals first
              | exact u_again (k + 1) (by omega) (by omega) (by simp only [g1 rfl]; (first | exact fun _ _ h => lk_nil h | (repeat (first | exact (fun _ _ h => lk_nil h) | (refine lk_sub rfl ?_))))) (by (repeat (first | exact Out.nil _ | (refine Out.cons (by (repeat (first | exact Take.here _ _ | apply Take.there))) ?_))))
              | exact u_again (k + 1) (by omega) (by omega) (by simp only [g2 (by omega) (by assumption)]; (first | exact fun _ _ h => lk_nil h | (repeat (first | exact (fun _ _ h => lk_nil h) | (refine lk_sub rfl ?_))))) (by (repeat (first | exact Out.nil _ | (refine Out.cons (by (repeat (first | exact Take.here _ _ | apply Take.there))) ?_))))
              | exact u_again (k + 1) (by omega) (by omega) (by simp only [g3 (by assumption)]; (first | exact fun _ _ h => lk_nil h | (repeat (first | exact (fun _ _ h => lk_nil h) | (refine lk_sub rfl ?_))))) (by (repeat (first | exact Out.nil _ | (refine Out.cons (by (repeat (first | exact Take.here _ _ | apply Take.there))) ?_))))
              | exact u_again (k + 1) (by omega) (by omega) (by simp only [g4 (by omega)]; (first | exact fun _ _ h => lk_nil h | (repeat (first | exact (fun _ _ h => lk_nil h) | (refine lk_sub rfl ?_))))) (by (repeat (first | exact Out.nil _ | (refine Out.cons (by (repeat (first | exact Take.here _ _ | apply Take.there))) ?_))))
        · obtain rfl : k = l.length := by omega
          have hSame := fun W A2 c2 A3 c3 (h1 : SlAt encSt 9 W A2 E) (h2 : SlAt encSt 9 W A3 N) => same_d E N A2 A3 c2 c3 W h1 h2 (by omega) (by omega)
          rw [← hui] at hSame
          cases hz : twiceTo l i l.length
          all_goals
            first
              | (exact absurd (hu.symm.trans (htw hz)) (by decide))
              | ((repeat' (first | ((with_reducible refine isOps ?_); first | refine u_move rfl rfl rfl rfl rfl ?_ | (refine x_load rfl rfl rfl rfl rfl ?_; refine ⟨_, rfl, ?_⟩) | refine u_pick rfl rfl rfl rfl rfl rfl ?_ | refine u_not_wanted rfl rfl rfl ?_ | (refine u_cmp rfl rfl rfl rfl rfl rfl rfl (fun h => ?_) (fun h => ?_) <;> (dsimp only [cmpP] at h; (try (exfalso; omega)))) | refine u_gives rfl rfl rfl rfl rfl rfl (fun _ _ q => hSame _ _ _ _ _ (sl_at q.own (Below.refl _ _)) (sl_at q.own (Below.refl _ _))) ?_ | (refine u_neb rfl rfl rfl rfl rfl rfl ?_) | refine u_gives rfl rfl rfl rfl rfl rfl (fun _ _ q => narrower_yes N E _ _ _ _ _ (sl_at q.own (Below.refl _ _)) (sl_at q.own (Below.refl _ _)) o2 (by omega)) ?_ | refine u_not rfl rfl rfl rfl rfl ?_ | refine u_add1 rfl rfl rfl rfl rfl rfl (by omega) ?_) | (with_reducible first | refine u_seq ?_ | refine u_region ?_ | refine u_nil ?_ | refine u_then_n ?_ | refine u_skip ?_ | refine u_exit ?_ | refine u_in_n ?_ | refine u_in_same ?_ | refine u_then_e ?_) | ((with_reducible refine u_cond_f ?_ ?_); (· exact rfl))))
                 exact u_again (i + 1) (by omega) (by omega) (by rw [hpt]; (try simp only [List.length_append, List.length_cons, List.length_nil]); (first | exact fun _ _ h => lk_nil h | (repeat (first | exact (fun _ _ h => lk_nil h) | (refine lk_sub rfl ?_))))) (by (repeat (first | exact Out.nil _ | (refine Out.cons (by (repeat (first | exact Take.here _ _ | apply Take.there))) ?_)))))

      ·
        (repeat' (first | ((with_reducible refine isOps ?_); first | refine u_move rfl rfl rfl rfl rfl ?_ | refine u_assign rfl rfl rfl rfl rfl ?_ | refine u_pick rfl rfl rfl rfl rfl rfl ?_ | refine u_not_wanted rfl rfl rfl ?_ | (refine u_cmp rfl rfl rfl rfl rfl rfl rfl (fun h => ?_) (fun h => ?_) <;> (dsimp only [cmpP] at h; (try (exfalso; omega)))) | refine u_len rfl rfl rfl rfl rfl ?_) | (with_reducible first | refine u_seq ?_ | refine u_region ?_ | refine u_nil ?_ | refine u_then_n ?_ | refine u_skip ?_ | refine u_block ?_) | ((with_reducible refine u_cond_f ?_ ?_); (· exact rfl))))
        refine u_loop (ι := Nat) (fun k => k ≤ l.length) (fun k => [(1, .slice (some ⟨bb, ob, none⟩) l.length cb), (2, .int .u8 turn), (3, .pointer (some ⟨b3, 0, none⟩)), (7, .bool true), (8, .pointer (some ⟨b8, 0, none⟩)), (10, .slice Ap pl.length cp), (12, .int .i64 ((pi.length : Nat) : Int)), (67, .slice (some ⟨bb, ob, none⟩) l.length cb), (68, .int .i64 (l.length : Int)), (69, .int .i64 (i : Int)), (13, .int .i64 (i : Int)), (14, .pointer (some ⟨b14, 0, none⟩)), (15, .pointer (some ⟨b15, 0, none⟩)), (16, .int .i64 0), (17, .bool false), (18, .bool (twiceTo l i k)), (104, .slice (some ⟨bb, ob, none⟩) l.length cb), (105, .int .i64 (l.length : Int)), (106, .int .i64 (k : Int))]) (fun _ => [.blk b15 [.slice A11 E.length c11], .sl encSt 9 A11 E, .blk b14 (encMe x), .sl encI 1 Ap pl, .blk b8 [.slice A9 N.length c9], .sl encSt 9 A9 N, .blk b3 [.slice A t.length ca]]) (fun k => l.length - k) 0 (Nat.zero_le _) (by simp only [twiceTo_zero]; (first | exact fun _ _ h => lk_nil h | (repeat (first | exact (fun _ _ h => lk_nil h) | (refine lk_sub rfl ?_))))) (by (repeat (first | exact Out.nil _ | (refine Out.cons (by (repeat (first | exact Take.here _ _ | apply Take.there))) ?_)))) ?_
        intro k hk
        by_cases hlk : k < l.length
        · obtain ⟨y2, hy2⟩ : ∃ y, l[k]? = some y := ⟨_, List.getElem?_eq_getElem hlk⟩
          have : GetI l k y2 := ⟨hy2⟩
          have e0 := twiceTo_succ (l := l) (i := i) (k := k)
          have e1 : ∀ z : Bool, twiceTo l i k = z → (z = true → twiceTo l i (k + 1) = true) ∧ (¬ (k : Int) = i → x = y2 → twiceTo l i (k + 1) = true) ∧ (¬ x = y2 → twiceTo l i (k + 1) = z) ∧ ((k : Int) = i → twiceTo l i (k + 1) = z) := by
            intro z hz
            rw [e0, hz, hx, hy2]
            refine ⟨fun h => by simp [h], fun h h2 => ?_, fun h => by simp [h], fun h => ?_⟩
            · have : k ≠ i := fun e => h (by rw [e])
              simp [this, h2]
            · have : k = i := by omega
              simp [this]
          cases hz : twiceTo l i k
          all_goals
            obtain ⟨g1, g2, g3, g4⟩ := e1 _ hz
            (repeat' (first | ((with_reducible refine isOps ?_); first | refine u_move rfl rfl rfl rfl rfl ?_ | refine u_assign rfl rfl rfl rfl rfl ?_ | (refine x_load rfl rfl rfl rfl rfl ?_; refine ⟨_, rfl, ?_⟩) | refine u_pick rfl rfl rfl rfl rfl rfl ?_ | refine u_not_wanted rfl rfl rfl ?_ | (refine u_cmp rfl rfl rfl rfl rfl rfl rfl (fun h => ?_) (fun h => ?_) <;> (dsimp only [cmpP] at h; (try (exfalso; omega)))) | refine u_eqme x y2 rfl rfl rfl rfl (by exact rfl) (by exact rfl) (fun h => ?_) (fun h => ?_) | refine u_add1 rfl rfl rfl rfl rfl rfl (by omega) ?_ | refine u_index rfl rfl rfl rfl rfl rfl rfl (by omega) ?_ | (refine x_store rfl rfl rfl rfl rfl ?_; refine And.intro rfl (And.intro (by first | decide | exact Nat.le_of_ble_eq_true rfl | (simp; omega)) ⟨_, rfl, ?_⟩)) | (refine u_alloc rfl rfl rfl rfl (fun b => ?_))) | (with_reducible first | refine u_seq ?_ | refine u_region ?_ | refine u_nil ?_ | refine u_then_n ?_ | refine u_skip ?_ | refine u_block ?_ | refine u_in_n ?_) | ((with_reducible refine u_cond_t ?_ ?_); (· exact rfl))))
            all_goals first
              | exact u_again (k + 1) (by omega) (by omega) (by simp only [g1 rfl]; (first | exact fun _ _ h => lk_nil h | (repeat (first | exact (fun _ _ h => lk_nil h) | (refine lk_sub rfl ?_))))) (by (repeat (first | exact Out.nil _ | (refine Out.cons (by (repeat (first | exact Take.here _ _ | apply Take.there))) ?_))))
              | exact u_again (k + 1) (by omega) (by omega) (by simp only [g2 (by omega) (by assumption)]; (first | exact fun _ _ h => lk_nil h | (repeat (first | exact (fun _ _ h => lk_nil h) | (refine lk_sub rfl ?_))))) (by (repeat (first | exact Out.nil _ | (refine Out.cons (by (repeat (first | exact Take.here _ _ | apply Take.there))) ?_))))
              | exact u_again (k + 1) (by omega) (by omega) (by simp only [g3 (by assumption)]; (first | exact fun _ _ h => lk_nil h | (repeat (first | exact (fun _ _ h => lk_nil h) | (refine lk_sub rfl ?_))))) (by (repeat (first | exact Out.nil _ | (refine Out.cons (by (repeat (first | exact Take.here _ _ | apply Take.there))) ?_))))
              | exact u_again (k + 1) (by omega) (by omega) (by simp only [g4 (by omega)]; (first | exact fun _ _ h => lk_nil h | (repeat (first | exact (fun _ _ h => lk_nil h) | (refine lk_sub rfl ?_))))) (by (repeat (first | exact Out.nil _ | (refine Out.cons (by (repeat (first | exact Take.here _ _ | apply Take.there))) ?_))))
        · obtain rfl : k = l.length := by omega
          have hSame := fun W A2 c2 A3 c3 (h1 : SlAt encSt 9 W A2 E) (h2 : SlAt encSt 9 W A3 N) => same_d E N A2 A3 c2 c3 W h1 h2 (by omega) (by omega)
          rw [← hui] at hSame
          cases hz : twiceTo l i l.length
          all_goals
            first
              | (exact absurd (hu.symm.trans (htw hz)) (by decide))
              | ((repeat' (first | ((with_reducible refine isOps ?_); first | refine u_move rfl rfl rfl rfl rfl ?_ | (refine x_load rfl rfl rfl rfl rfl ?_; refine ⟨_, rfl, ?_⟩) | refine u_pick rfl rfl rfl rfl rfl rfl ?_ | refine u_not_wanted rfl rfl rfl ?_ | (refine u_cmp rfl rfl rfl rfl rfl rfl rfl (fun h => ?_) (fun h => ?_) <;> (dsimp only [cmpP] at h; (try (exfalso; omega)))) | refine u_gives rfl rfl rfl rfl rfl rfl (fun _ _ q => hSame _ _ _ _ _ (sl_at q.own (Below.refl _ _)) (sl_at q.own (Below.refl _ _))) ?_ | (refine u_neb rfl rfl rfl rfl rfl rfl ?_) | refine u_gives rfl rfl rfl rfl rfl rfl (fun _ _ q => narrower_yes N E _ _ _ _ _ (sl_at q.own (Below.refl _ _)) (sl_at q.own (Below.refl _ _)) o2 (by omega)) ?_ | refine u_not rfl rfl rfl rfl rfl ?_ | refine u_add1 rfl rfl rfl rfl rfl rfl (by omega) ?_) | (with_reducible first | refine u_seq ?_ | refine u_region ?_ | refine u_nil ?_ | refine u_then_n ?_ | refine u_skip ?_ | refine u_exit ?_ | refine u_in_n ?_ | refine u_in_same ?_ | refine u_then_e ?_) | ((with_reducible refine u_cond_f ?_ ?_); (· exact rfl))))
                 exact u_again (i + 1) (by omega) (by omega) (by rw [hpt]; (try simp only [List.length_append, List.length_cons, List.length_nil]); (first | exact fun _ _ h => lk_nil h | (repeat (first | exact (fun _ _ h => lk_nil h) | (refine lk_sub rfl ?_))))) (by (repeat (first | exact Out.nil _ | (refine Out.cons (by (repeat (first | exact Take.here _ _ | apply Take.there))) ?_)))))

    · have hso : soAt (fun i m => uselessP t l i m) l i = true := by simp [soAt, hx, hu]
      have hy := hyes i hlt hso
      have hpt := picksTo_yes (p := fun i m => uselessP t l i m) hso
      rw [hu] at hui
      generalize picksTo (fun i m => uselessP t l i m) l i = pi at *
      have hat : pi.length < pl.length := (List.getElem?_eq_some_iff.1 hy).1
      have : GetI pl pi.length (i : Int) := ⟨hy⟩
      refine u_slS (xs := pl) (by (repeat (first | exact Take.here _ _ | apply Take.there))) (by omega) ?_
      rintro bp op rfl
      ·
        (repeat' (first | ((with_reducible refine isOps ?_); first | refine u_move rfl rfl rfl rfl rfl ?_ | refine u_assign rfl rfl rfl rfl rfl ?_ | (refine x_load rfl rfl rfl rfl rfl ?_; refine ⟨_, rfl, ?_⟩) | refine u_pick rfl rfl rfl rfl rfl rfl ?_ | (refine u_cmp rfl rfl rfl rfl rfl rfl rfl (fun h => ?_) (fun h => ?_) <;> (dsimp only [cmpP] at h; (try (exfalso; omega)))) | refine u_add1 rfl rfl rfl rfl rfl rfl (by omega) ?_ | refine u_index rfl rfl rfl rfl rfl rfl rfl (by omega) ?_ | refine u_len rfl rfl rfl rfl rfl ?_) | (with_reducible first | refine u_seq ?_ | refine u_region ?_ | refine u_nil ?_ | refine u_then_n ?_ | refine u_block ?_) | ((with_reducible refine u_cond_t ?_ ?_); (· exact rfl))))
        refine u_loop (ι := Nat) (fun k => k ≤ l.length) (fun k => [(1, .slice (some ⟨bb, ob, none⟩) l.length cb), (2, .int .u8 turn), (3, .pointer (some ⟨b3, 0, none⟩)), (7, .bool true), (8, .pointer (some ⟨b8, 0, none⟩)), (10, .slice (some ⟨bp, op, none⟩) pl.length cp), (12, .int .i64 (((pi.length + 1) : Nat) : Int)), (67, .slice (some ⟨bb, ob, none⟩) l.length cb), (68, .int .i64 (l.length : Int)), (69, .int .i64 (i : Int)), (13, .int .i64 (i : Int)), (14, .pointer (some ⟨b14, 0, none⟩)), (15, .pointer (some ⟨b15, 0, none⟩)), (16, .int .i64 0), (17, .bool true), (18, .bool (twiceTo l i k)), (104, .slice (some ⟨bb, ob, none⟩) l.length cb), (105, .int .i64 (l.length : Int)), (106, .int .i64 (k : Int))]) (fun _ => [.blk b15 [.slice A11 E.length c11], .sl encSt 9 A11 E, .blk b14 (encMe x), .sl encI 1 (some ⟨bp, op, none⟩) pl, .blk b8 [.slice A9 N.length c9], .sl encSt 9 A9 N, .blk b3 [.slice A t.length ca]]) (fun k => l.length - k) 0 (Nat.zero_le _) (by simp only [twiceTo_zero]; (first | exact fun _ _ h => lk_nil h | (repeat (first | exact (fun _ _ h => lk_nil h) | (refine lk_sub rfl ?_))))) (by (repeat (first | exact Out.nil _ | (refine Out.cons (by (repeat (first | exact Take.here _ _ | apply Take.there))) ?_)))) ?_
        intro k hk
        by_cases hlk : k < l.length
        · obtain ⟨y2, hy2⟩ : ∃ y, l[k]? = some y := ⟨_, List.getElem?_eq_getElem hlk⟩
          have : GetI l k y2 := ⟨hy2⟩
          have e0 := twiceTo_succ (l := l) (i := i) (k := k)
          have e1 : ∀ z : Bool, twiceTo l i k = z → (z = true → twiceTo l i (k + 1) = true) ∧ (¬ (k : Int) = i → x = y2 → twiceTo l i (k + 1) = true) ∧ (¬ x = y2 → twiceTo l i (k + 1) = z) ∧ ((k : Int) = i → twiceTo l i (k + 1) = z) := by
            intro z hz
            rw [e0, hz, hx, hy2]
            refine ⟨fun h => by simp [h], fun h h2 => ?_, fun h => by simp [h], fun h => ?_⟩
            · have : k ≠ i := fun e => h (by rw [e])
              simp [this, h2]
            · have : k = i := by omega
              simp [this]
          cases hz : twiceTo l i k
          all_goals
            obtain ⟨g1, g2, g3, g4⟩ := e1 _ hz
            (repeat' (first | ((with_reducible refine isOps ?_); first | refine u_move rfl rfl rfl rfl rfl ?_ | refine u_assign rfl rfl rfl rfl rfl ?_ | (refine x_load rfl rfl rfl rfl rfl ?_; refine ⟨_, rfl, ?_⟩) | refine u_pick rfl rfl rfl rfl rfl rfl ?_ | refine u_not_wanted rfl rfl rfl ?_ | (refine u_cmp rfl rfl rfl rfl rfl rfl rfl (fun h => ?_) (fun h => ?_) <;> (dsimp only [cmpP] at h; (try (exfalso; omega)))) | refine u_eqme x y2 rfl rfl rfl rfl (by exact rfl) (by exact rfl) (fun h => ?_) (fun h => ?_) | refine u_add1 rfl rfl rfl rfl rfl rfl (by omega) ?_ | refine u_index rfl rfl rfl rfl rfl rfl rfl (by omega) ?_ | (refine x_store rfl rfl rfl rfl rfl ?_; refine And.intro rfl (And.intro (by first | decide | exact Nat.le_of_ble_eq_true rfl | (simp; omega)) ⟨_, rfl, ?_⟩)) | (refine u_alloc rfl rfl rfl rfl (fun b => ?_))) | (with_reducible first | refine u_seq ?_ | refine u_region ?_ | refine u_nil ?_ | refine u_then_n ?_ | refine u_skip ?_ | refine u_block ?_ | refine u_in_n ?_) | ((with_reducible refine u_cond_t ?_ ?_); (· exact rfl))))
            all_goals first
              | exact u_again (k + 1) (by omega) (by omega) (by simp only [g1 rfl]; (first | exact fun _ _ h => lk_nil h | (repeat (first | exact (fun _ _ h => lk_nil h) | (refine lk_sub rfl ?_))))) (by (repeat (first | exact Out.nil _ | (refine Out.cons (by (repeat (first | exact Take.here _ _ | apply Take.there))) ?_))))
              | exact u_again (k + 1) (by omega) (by omega) (by simp only [g2 (by omega) (by assumption)]; (first | exact fun _ _ h => lk_nil h | (repeat (first | exact (fun _ _ h => lk_nil h) | (refine lk_sub rfl ?_))))) (by (repeat (first | exact Out.nil _ | (refine Out.cons (by (repeat (first | exact Take.here _ _ | apply Take.there))) ?_))))
              | exact u_again (k + 1) (by omega) (by omega) (by simp only [g3 (by assumption)]; (first | exact fun _ _ h => lk_nil h | (repeat (first | exact (fun _ _ h => lk_nil h) | (refine lk_sub rfl ?_))))) (by (repeat (first | exact Out.nil _ | (refine Out.cons (by (repeat (first | exact Take.here _ _ | apply Take.there))) ?_))))
              | exact u_again (k + 1) (by omega) (by omega) (by simp only [g4 (by omega)]; (first | exact fun _ _ h => lk_nil h | (repeat (first | exact (fun _ _ h => lk_nil h) | (refine lk_sub rfl ?_))))) (by (repeat (first | exact Out.nil _ | (refine Out.cons (by (repeat (first | exact Take.here _ _ | apply Take.there))) ?_))))
        · obtain rfl : k = l.length := by omega
          have hSame := fun W A2 c2 A3 c3 (h1 : SlAt encSt 9 W A2 E) (h2 : SlAt encSt 9 W A3 N) => same_d E N A2 A3 c2 c3 W h1 h2 (by omega) (by omega)
          rw [← hui] at hSame
          cases hz : twiceTo l i l.length
          all_goals
            first
              | (exact absurd (hu.symm.trans (htw hz)) (by decide))
              | ((repeat' (first | ((with_reducible refine isOps ?_); first | refine u_move rfl rfl rfl rfl rfl ?_ | (refine x_load rfl rfl rfl rfl rfl ?_; refine ⟨_, rfl, ?_⟩) | refine u_pick rfl rfl rfl rfl rfl rfl ?_ | refine u_not_wanted rfl rfl rfl ?_ | (refine u_cmp rfl rfl rfl rfl rfl rfl rfl (fun h => ?_) (fun h => ?_) <;> (dsimp only [cmpP] at h; (try (exfalso; omega)))) | refine u_gives rfl rfl rfl rfl rfl rfl (fun _ _ q => hSame _ _ _ _ _ (sl_at q.own (Below.refl _ _)) (sl_at q.own (Below.refl _ _))) ?_ | (refine u_neb rfl rfl rfl rfl rfl rfl ?_) | refine u_gives rfl rfl rfl rfl rfl rfl (fun _ _ q => narrower_yes N E _ _ _ _ _ (sl_at q.own (Below.refl _ _)) (sl_at q.own (Below.refl _ _)) o2 (by omega)) ?_ | refine u_not rfl rfl rfl rfl rfl ?_ | refine u_add1 rfl rfl rfl rfl rfl rfl (by omega) ?_) | (with_reducible first | refine u_seq ?_ | refine u_region ?_ | refine u_nil ?_ | refine u_then_n ?_ | refine u_skip ?_ | refine u_exit ?_ | refine u_in_n ?_ | refine u_in_same ?_ | refine u_then_e ?_) | ((with_reducible refine u_cond_f ?_ ?_); (· exact rfl))))
                 exact u_again (i + 1) (by omega) (by omega) (by rw [hpt]; (try simp only [List.length_append, List.length_cons, List.length_nil]); (first | exact fun _ _ h => lk_nil h | (repeat (first | exact (fun _ _ h => lk_nil h) | (refine lk_sub rfl ?_))))) (by (repeat (first | exact Out.nil _ | (refine Out.cons (by (repeat (first | exact Take.here _ _ | apply Take.there))) ?_)))))

  · obtain rfl : i = l.length := by omega
    rw [← hpick]
    (repeat' (first | ((with_reducible refine isOps ?_); first | refine u_move rfl rfl rfl rfl rfl ?_ | refine u_assign rfl rfl rfl rfl rfl ?_ | (refine u_cmp rfl rfl rfl rfl rfl rfl rfl (fun h => ?_) (fun h => ?_) <;> (dsimp only [cmpP] at h; (try (exfalso; omega)))) | refine u_len rfl rfl rfl rfl rfl ?_) | (with_reducible first | refine u_seq ?_ | refine u_region ?_ | refine u_nil ?_ | refine u_then_n ?_ | refine u_block ?_ | refine u_exit ?_ | refine u_in_same ?_ | refine u_then_e ?_) | ((with_reducible refine u_cond_f ?_ ?_); (· exact rfl))))
    refine u_row_nil encMe 5 73 ?_
    refine u_loop (ι := Nat × Value) (fun i => i.1 ≤ l.length) (fun i => [(1, .slice B l.length cb), (2, .int .u8 turn), (3, .pointer (some ⟨b3, 0, none⟩)), (7, .bool true), (8, .pointer (some ⟨b8, 0, none⟩)), (10, .slice Ap pl.length cp), (12, .int .i64 (pl.length : Int)), (21, i.2), (146, .slice B l.length cb), (147, .int .i64 (l.length : Int)), (148, .int .i64 (i.1 : Int))]) (fun i => [.row encMe 5 73 i.2 (rotTo l r i.1), .sl encI 1 Ap pl, .blk b8 [.slice A9 N.length c9], .sl encSt 9 A9 N, .blk b3 [.slice A t.length ca]]) (fun i => l.length - i.1) (0, .slice none 0 0) (Nat.zero_le _) (by (first | exact fun _ _ h => lk_nil h | (repeat (first | exact (fun _ _ h => lk_nil h) | (refine lk_sub rfl ?_))))) (by (repeat (first | exact Out.nil _ | (refine Out.cons (by (repeat (first | exact Take.here _ _ | apply Take.there))) ?_)))) ?_
    clear hi hlt
    rintro ⟨i, v⟩ hi
    simp only at hi ⊢
    by_cases hlt : i < l.length
    · obtain ⟨hr2, hr3⟩ := hr1 (by omega)
      have hJ : ((i : Int) + (r : Int)) % (l.length : Int) = (((i + r) % l.length : Nat) : Int) := by
        rw [Int.natCast_emod]; congr 1
      have hJl := Nat.mod_lt (i + r) (show l.length > 0 by omega)
      have hrs := rotTo_succ (l := l) (r := r) (k := i)
      have hrl := rotTo_len (l := l) (r := r) (k := i)
      generalize (i + r) % l.length = J at *
      have hy : l[J]? = some (l.getD J default) := by simp [hJl]
      generalize l.getD J default = y at *
      obtain ⟨bb, ob, rfl, _⟩ := hs.at_ hJl
      have : InS w bb ob encMe 5 l := ⟨hs⟩
      have : GetI l J y := ⟨hy⟩
      (repeat' (first | ((with_reducible refine isOps ?_); first | refine u_move rfl rfl rfl rfl rfl ?_ | refine u_assign rfl rfl rfl rfl rfl ?_ | (refine x_load rfl rfl rfl rfl rfl ?_; refine ⟨_, rfl, ?_⟩) | (refine u_cmp rfl rfl rfl rfl rfl rfl rfl (fun h => ?_) (fun h => ?_) <;> (dsimp only [cmpP] at h; (try (exfalso; omega)))) | (refine u_remN r rfl rfl rfl rfl rfl rfl (by omega) (by omega) hr2 ?_) | (refine u_remN J rfl rfl rfl rfl rfl rfl (by omega) (by omega) hJ ?_) | refine u_index (I := J) rfl rfl rfl rfl rfl rfl rfl (by omega) ?_ | (refine u_append (enc := encMe) [y] rfl rfl rfl rfl rfl (by (repeat (first | exact Take.here _ _ | apply Take.there))) rfl rfl (src_one (enc := encMe) (by exact rfl)) (by refine ⟨?_, by decide⟩; (try simp only [List.length_append, List.length_cons, List.length_nil]); omega) (fun A' c' => ?_)) | refine u_add1 rfl rfl rfl rfl rfl rfl (by omega) ?_ | refine u_add rfl rfl rfl rfl rfl rfl (IntWalk.i64_in _ (by omega)) ?_ | refine u_len rfl rfl rfl rfl rfl ?_ | (refine x_buildSlice rfl rfl rfl rfl rfl ?_; refine ⟨rfl, _, rfl, fun b => ?_⟩) | refine u_convert rfl rfl rfl rfl rfl (IntWalk.i64_in _ (by omega)) ?_) | (with_reducible first | refine u_seq ?_ | refine u_region ?_ | refine u_nil ?_ | refine u_then_n ?_ | refine u_skip ?_ | refine u_block ?_ | refine u_in_n ?_) | ((with_reducible refine u_cond_t ?_ ?_); (· exact rfl))))
      refine u_again (i + 1, .slice A' (rotTo l r i ++ [y]).length c') (by simp only; omega) (by simp only; omega) (by (first | exact fun _ _ h => lk_nil h | (repeat (first | exact (fun _ _ h => lk_nil h) | (refine lk_sub rfl ?_))))) ?_
      rw [hrs]
      (repeat (first | exact Out.nil _ | (refine Out.cons (by (repeat (first | exact Take.here _ _ | apply Take.there))) ?_)))
    · obtain rfl : i = l.length := by omega
      (repeat' (first | ((with_reducible refine isOps ?_); first | refine u_move rfl rfl rfl rfl rfl ?_ | (refine x_load rfl rfl rfl rfl rfl ?_; refine ⟨_, rfl, ?_⟩) | (refine u_cmp rfl rfl rfl rfl rfl rfl rfl (fun h => ?_) (fun h => ?_) <;> (dsimp only [cmpP] at h; (try (exfalso; omega))))) | (with_reducible first | refine u_seq ?_ | refine u_region ?_ | refine u_nil ?_ | refine u_then_n ?_ | refine u_exit ?_ | refine u_in_same ?_ | refine u_then_e ?_) | ((with_reducible refine u_cond_f ?_ ?_); (· exact rfl))))
      refine u_row_form (enc := encMe) (by (repeat (first | exact Take.here _ _ | apply Take.there))) ?_
      rintro A7 c7 rfl
      (repeat' (first | ((with_reducible refine isOps ?_); first | refine u_move rfl rfl rfl rfl rfl ?_ | refine u_assign rfl rfl rfl rfl rfl ?_ | (refine x_load rfl rfl rfl rfl rfl ?_; refine ⟨_, rfl, ?_⟩) | refine u_pick rfl rfl rfl rfl rfl rfl ?_ | (refine u_cmp rfl rfl rfl rfl rfl rfl rfl (fun h => ?_) (fun h => ?_) <;> (dsimp only [cmpP] at h; (try (exfalso; omega)))) | refine u_newsl rfl rfl rfl rfl rfl rfl (fun _ _ q => hN5 _ _ _ q.below (row_at q.own (by (repeat (first | exact Take.here _ _ | apply Take.there)))) (row_foot2 q.own (by (repeat (first | exact Take.here _ _ | apply Take.there))))) (fun A' c' => ?_) | refine u_gives rfl rfl rfl rfl rfl rfl (fun _ _ q => sts_self N _ _ _ _ _ (sl_at q.own (Below.refl _ _)) (sl_at q.own (Below.refl _ _)) (by omega)) ?_ | refine u_extract rfl rfl rfl rfl rfl rfl ?_ | refine u_len rfl rfl rfl rfl rfl ?_ | (refine x_store rfl rfl rfl rfl rfl ?_; refine And.intro rfl (And.intro (by first | decide | exact Nat.le_of_ble_eq_true rfl | (simp; omega)) ⟨_, rfl, ?_⟩)) | (refine u_alloc rfl rfl rfl rfl (fun b => ?_))) | (with_reducible first | refine u_seq ?_ | refine u_region ?_ | refine u_nil ?_ | refine u_then_n ?_ | refine u_ret ?_)))
      exact u_done (by (exact ResL.cons (by exact Res1.tmp rfl) ResL.nil)) () trivial rfl (fun _ h => h.sub (by (repeat (first | exact Out.nil _ | (refine Out.cons (by (repeat (first | exact Take.here _ _ | apply Take.there))) ?_)))))
end Two
end Go.Proofs.Ytekjkaoibcfgfaa
