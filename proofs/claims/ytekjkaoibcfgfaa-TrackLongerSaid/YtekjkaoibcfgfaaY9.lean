/- Choices: choose, some, truth. -/
import Derived.Test.YtekjkaoibcfgfaaZ1
import Derived.Test.YtekjkaoibcfgfaaV4
import Derived.Test.YtekjkaoibcfgfaaX20
import Derived.Test.YtekjkaoibcfgfaaY6
namespace Go.Proofs.Ytekjkaoibcfgfaa
open Go.RowKit
set_option maxRecDepth 20000
set_option linter.unusedSimpArgs false
set_option linter.unusedVariables false

instance : EncI encU 1 := ⟨fun _ => rfl, fun x => by simp [encU, Value.oneCell']⟩
theorem choose_any (ch : List Int) (C : Option Addr) (cc : Nat) (x : Int) (i : Nat) (w : World) (hk : SlAt encU 1 w C ch) (hf : FitC ch) (hx : x = i) : Gv Try.prog 47 [.slice C ch.length cc, .int .i64 x] w (.int .i64 (chooseI ch i)) := by
  subst hx
  unfold Gv
  by_cases h0 : ch.length = 0
  · obtain rfl := List.eq_nil_of_length_eq_zero h0
    (refine ret_enter (n := 16) Try.func47 rfl rfl rfl ?_)
    (repeat' (first | ((with_reducible refine isOps ?_); first | refine u_move rfl rfl rfl rfl rfl ?_ | refine u_assign rfl rfl rfl rfl rfl ?_ | (refine u_cmp rfl rfl rfl rfl rfl rfl rfl (fun h => ?_) (fun h => ?_) <;> (dsimp only [cmpP] at h; (try (exfalso; omega)))) | refine u_len rfl rfl rfl rfl rfl ?_) | (with_reducible first | refine u_seq ?_ | refine u_region ?_ | refine u_nil ?_ | refine u_then_n ?_ | refine u_ret ?_ | refine u_then_r ?_) | ((with_reducible refine u_cond_t ?_ ?_); (· exact rfl))))
    exact u_done (by (exact ResL.cons (by exact Res1.tmp rfl) ResL.nil)) () trivial rfl (fun _ h => h.sub (by (repeat (first | exact Out.nil _ | (refine Out.cons (by (repeat (first | exact Take.here _ _ | apply Take.there))) ?_)))))
  · obtain ⟨I, hI⟩ : ∃ I, I = i % ch.length := ⟨_, rfl⟩
    have hlt : I < ch.length := by rw [hI]; exact Nat.mod_lt i (by omega)
    have hI2 : (i : Int) % (ch.length : Int) = (I : Int) := by rw [hI]; exact (Int.natCast_emod _ _).symm
    obtain ⟨b, o, rfl, _⟩ := hk.at_ hlt
    have : InS w b o encU 1 ch := ⟨hk⟩
    have hg : GetI ch I ch[I] := ⟨by simp [hlt]⟩
    have hb := hf _ (List.getElem_mem hlt)
    have e : chooseI ch i = ch[I] := by simp [chooseI, ← hI, hlt]
    rw [e]
    generalize ch[I] = z at *
    (refine ret_enter (n := 16) Try.func47 rfl rfl rfl ?_)
    (repeat' (first | ((with_reducible refine isOps ?_); first | refine u_move rfl rfl rfl rfl rfl ?_ | refine u_assign rfl rfl rfl rfl rfl ?_ | (refine x_load rfl rfl rfl rfl rfl ?_; refine ⟨_, rfl, ?_⟩) | (refine u_cmp rfl rfl rfl rfl rfl rfl rfl (fun h => ?_) (fun h => ?_) <;> (dsimp only [cmpP] at h; (try (exfalso; omega)))) | refine u_index (I := I) rfl rfl rfl rfl rfl rfl hI2 hlt ?_ | refine u_len rfl rfl rfl rfl rfl ?_ | refine u_convert rfl rfl rfl rfl rfl (IntWalk.i64_in _ (by omega)) ?_ | refine u_rem rfl rfl rfl rfl rfl rfl (by omega) (by omega) ?_) | (with_reducible first | refine u_seq ?_ | refine u_region ?_ | refine u_nil ?_ | refine u_then_n ?_ | refine u_ret ?_ | refine u_skip ?_) | ((with_reducible refine u_cond_f ?_ ?_); (· exact rfl))))
    exact u_done (by (exact ResL.cons (by exact Res1.tmp rfl) ResL.nil)) () trivial rfl (fun _ h => h.sub (by (repeat (first | exact Out.nil _ | (refine Out.cons (by (repeat (first | exact Take.here _ _ | apply Take.there))) ?_)))))
theorem some_any (s : Sp) (x : Int) (w : World) (h0 : 0 ≤ s.lo) (h1 : s.lo ≤ s.hi) (h2 : s.hi ≤ 400000) (hx : 0 ≤ x) : Gv Try.prog 55 [.agg #[.int .i64 s.lo, .int .i64 s.hi], .int .i64 x] w (.int .i64 (someI s x)) := by
  unfold Gv
  have g1 := Int.emod_nonneg x (show s.hi - s.lo + 1 ≠ 0 by omega)
  have g2 := Int.emod_lt_of_pos x (show 0 < s.hi - s.lo + 1 by omega)
  unfold someI
  (refine ret_enter (n := 16) Try.func55 rfl rfl rfl ?_)
  (repeat' (first | ((with_reducible refine isOps ?_); first | refine u_assign rfl rfl rfl rfl rfl ?_ | (refine u_box rfl rfl rfl rfl rfl rfl (fun b => ?_))) | (with_reducible first | refine u_seq ?_ | refine u_region ?_ | refine u_nil ?_ | refine u_then_n ?_)))
  (refine u_chain (by kernel_rfl) [[], [true], [false, false], [false, false, false], [true, false, false, false], [false, false, false, false, false], [true, false, false, false, false, false], [true, true, true, true, false, false, false], [true, true, true, true, true, false, false, false], [true, true, true, true, true, true, true, false, false], [true, true, true, true, true, true, true, true, true, true], [true, true, true, true, true, true, true, true, true, true, true]] (by kernel_rfl) (by kernel_rfl) ?_)
  (repeat' (first | (((with_reducible refine c_go ?_ ?_); (· exact rfl); refine ⟨_, fun G => (by (try simp only [fltT, entsT, List.nil_append, List.cons_append]); rfl), ?_⟩); first | refine c_val _ (fun _ => e_move rfl rfl) (fun _ => rfl) rfl (by first | exact fun _ _ _ => rfl | (intro G G' h; simp (decide := true) only [h])) ?_ | refine c_val _ (fun _ => e_load' rfl rfl (by exact rfl)) (fun _ => rfl) rfl (by first | exact fun _ _ _ => rfl | (intro G G' h; simp (decide := true) only [h])) ?_ | refine c_val _ (fun _ => e_field rfl rfl) (fun _ => rfl) rfl (by first | exact fun _ _ _ => rfl | (intro G G' h; simp (decide := true) only [h])) ?_ | refine c_val _ (fun _ => e_assign rfl rfl) (fun _ => rfl) rfl (by first | exact fun _ _ _ => rfl | (intro G G' h; simp (decide := true) only [h])) ?_ | refine c_val _ (fun _ => e_add rfl rfl rfl (IntWalk.i64_in _ (by omega))) (fun _ => rfl) rfl (by first | exact fun _ _ _ => rfl | (intro G G' h; simp (decide := true) only [h])) ?_ | refine c_val _ (fun _ => e_sub rfl rfl rfl (IntWalk.i64_in _ (by omega))) (fun _ => rfl) rfl (by first | exact fun _ _ _ => rfl | (intro G G' h; simp (decide := true) only [h])) ?_ | refine c_val _ (fun _ => e_rem rfl rfl rfl (by omega) (by omega)) (fun _ => rfl) rfl (by first | exact fun _ _ _ => rfl | (intro G G' h; simp (decide := true) only [h])) ?_) | (with_reducible refine c_nil ?_)))
  (intro G; simp only [regsT, entsT, Pend.at_none, List.nil_append, List.cons_append])
  (repeat' (first | (with_reducible first | refine u_then_n ?_ | refine u_ret ?_)))
  exact u_done (by (exact ResL.cons (by exact Res1.tmp rfl) ResL.nil)) () trivial rfl (fun _ h => h.sub (by (repeat (first | exact Out.nil _ | (refine Out.cons (by (repeat (first | exact Take.here _ _ | apply Take.there))) ?_)))))
theorem truthL_take {t : List St} {ch : List Int} {i : Nat} (h : i < t.length) : (truthL t ch).take (i + 1) = (truthL t ch).take i ++ [someI t[i].long (chooseI ch (2 * i))] := by
  rw [List.take_succ_eq_append_getElem (by rw [truthL_len]; exact h)]
  simp [truthL]
theorem truthF_take {t : List St} {ch : List Int} {i : Nat} (h : i < t.length) : (truthF t ch).take (i + 1) = (truthF t ch).take i ++ [someI t[i].fall (chooseI ch (2 * i + 1))] := by
  rw [List.take_succ_eq_append_getElem (by rw [truthF_len]; exact h)]
  simp [truthF]
theorem u_row_cap {w0 : World} {n : Nat} {d : List Deferred} {R : List (Nat × Value)} {H H' : List Ent} {X : Act → World → Prop} {v : Value} {α : Type} {enc : α → List Value} {k e : Nat} {xs : List α} (ht : Take H (.row enc k e v xs) H') (h : ∀ A c, v = .slice A xs.length c → xs.length ≤ c → U w0 n d R H X) : U w0 n d R H X := fun a w q => by
  obtain ⟨_, h2⟩ := (q.own.here (.row enc k e v xs) ht.mem : Row enc k e 0 w v xs)
  rcases h2 with ⟨rfl, h0⟩ | ⟨g, cap, cur, rfl, _, _, hc, _⟩
  · exact h none 0 (by rw [h0]) (by omega) a w q
  · exact h _ _ rfl hc a w q
namespace Two
set_option maxHeartbeats 1000000 in
theorem truth_any (t : List St) (A : Option Addr) (ca : Nat) (ch : List Int) (C : Option Addr) (cc : Nat) (w : World) (ht : SlAt encSt 9 w A t) (hk : SlAt encU 1 w C ch) (ho : ∀ s ∈ t, Okay s) (hf : FitC ch) (hl : t.length ≤ 1000) :
    Ret Try.prog 45 [.agg #[.slice A t.length ca], .slice C ch.length cc] w (fun z : (Option Addr × Nat) × Option Addr × Nat => .tuple #[.slice z.1.1 (truthL t ch).length z.1.2, .slice z.2.1 (truthF t ch).length z.2.2]) (fun z => [.sl encI 1 z.1.1 (truthL t ch), .sl encI 1 z.2.1 (truthF t ch)]) (fun z => (truthL t ch).length ≤ z.1.2 ∧ (truthF t ch).length ≤ z.2.2) := by
  have hL := truthL_len (t := t) (ch := ch)
  have hF := truthF_len (t := t) (ch := ch)
  (refine ret_enter (n := 40) Try.func45 rfl rfl rfl ?_)
  (repeat' (first | ((with_reducible refine isOps ?_); first | refine u_move rfl rfl rfl rfl rfl ?_ | refine u_assign rfl rfl rfl rfl rfl ?_ | (refine x_load rfl rfl rfl rfl rfl ?_; refine ⟨_, rfl, ?_⟩) | refine u_field rfl rfl rfl rfl rfl ?_ | refine u_len rfl rfl rfl rfl rfl ?_ | (refine u_box rfl rfl rfl rfl rfl rfl (fun b => ?_))) | (with_reducible first | refine u_seq ?_ | refine u_region ?_ | refine u_nil ?_ | refine u_then_n ?_ | refine u_block ?_)))
  obtain ⟨b2, hb2⟩ : ∃ x, x = b := ⟨b, rfl⟩
  subst hb2
  refine u_row_nil encI 1 3 ?_
  refine u_row_nil encI 1 3 ?_
  refine u_loop (ι := Nat × Value × Value) (fun i => i.1 ≤ t.length) (fun i => [(1, .slice C ch.length cc), (2, .pointer (some ⟨b2, 0, none⟩)), (4, i.2.1), (5, i.2.2), (9, .slice A t.length ca), (10, .int .i64 (t.length : Int)), (11, .int .i64 (i.1 : Int))]) (fun i => [.row encI 1 3 i.2.1 ((truthL t ch).take i.1), .row encI 1 3 i.2.2 ((truthF t ch).take i.1), .blk b2 [.slice A t.length ca]]) (fun i => t.length - i.1) (0, .slice none 0 0, .slice none 0 0) (Nat.zero_le _) (by (first | exact fun _ _ h => lk_nil h | (repeat (first | exact (fun _ _ h => lk_nil h) | (refine lk_sub rfl ?_))))) (by (repeat (first | exact Out.nil _ | (refine Out.cons (by (repeat (first | exact Take.here _ _ | apply Take.there))) ?_)))) ?_
  rintro ⟨i, v1, v2⟩ hi
  simp only at hi ⊢
  by_cases hlt : i < t.length
  · obtain ⟨ba, oa, rfl, _⟩ := ht.at_ hlt
    have : InS w ba oa encSt 9 t := ⟨ht⟩
    have hz : t[i]? = some t[i] := by simp [hlt]
    have hok := ho _ (List.getElem_mem hlt)
    have e1 := truthL_take (ch := ch) hlt
    have e2 := truthF_take (ch := ch) hlt
    have hc1 := (chooseI_bd hf (2 * i)).1
    have hc2 := (chooseI_bd hf (2 * i + 1)).1
    have l1 : ((truthL t ch).take i).length = i := by rw [List.length_take]; omega
    have l2 : ((truthF t ch).take i).length = i := by rw [List.length_take]; omega
    generalize t[i] = z at *
    have : GetI t i z := ⟨hz⟩
    have := hok.l0; have := hok.l1; have := hok.l2; have := hok.f0; have := hok.f1; have := hok.f2
    (repeat' (first | ((with_reducible refine isOps ?_); first | refine u_move rfl rfl rfl rfl rfl ?_ | refine u_assign rfl rfl rfl rfl rfl ?_ | (refine x_load rfl rfl rfl rfl rfl ?_; refine ⟨_, rfl, ?_⟩) | (refine u_cmp rfl rfl rfl rfl rfl rfl rfl (fun h => ?_) (fun h => ?_) <;> (dsimp only [cmpP] at h; (try (exfalso; omega)))) | refine u_index rfl rfl rfl rfl rfl rfl rfl (by omega) ?_ | (refine x_store rfl rfl rfl rfl rfl ?_; refine And.intro rfl (And.intro (by first | decide | exact Nat.le_of_ble_eq_true rfl | (simp; omega)) ⟨_, rfl, ?_⟩)) | (refine u_alloc rfl rfl rfl rfl (fun b => ?_))) | (with_reducible first | refine u_seq ?_ | refine u_region ?_ | refine u_nil ?_ | refine u_then_n ?_ | refine u_skip ?_ | refine u_block ?_) | ((with_reducible refine u_cond_t ?_ ?_); (· exact rfl))))
    (refine u_chain [] [(9, [.row encI 1 3 v1 ((truthL t ch).take i)]), (20, [.row encI 1 3 v2 ((truthF t ch).take i)])] (show ([9, 20] : List Nat).Nodup by decide) (H0 := [.blk b (encSt z), .blk b2 [.slice (some ⟨ba, oa, none⟩) t.length ca]]) (fun _ h => h.sub (by (repeat (first | exact Out.nil _ | (refine Out.cons (by (repeat (first | exact Take.here _ _ | apply Take.there))) ?_))))) (by kernel_rfl) [[], [false], [true, false], [false, false, false], [false, false, false, false], [true, false, false, false, false], [true, true, true, false, false, false], [true, true, true, true, true, true, false], [true, true, true, true, true, true, true, false], [true, true, true, true, true, true, true, true, true], [false, false, false, false, false, false, false, false, false, false], [false, false, false, false, false, false, false, false, false, false, false], [true, false, false, false, false, false, false, false, false, false, false, false], [false, false, false, false, false, false, false, false, false, false, false, false, false], [false, false, false, false, false, false, false, false, false, false, false, false, false, false], [true, false, false, false, false, false, false, false, false, false, false, false, false, false, false], [true, true, false, false, false, false, false, false, false, false, false, false, false, false, false, false], [true, true, true, true, false, false, false, true, true, true, true, true, true, true, true, true, true], [true, true, true, true, true, true, true, false, true, true, true, true, true, true, true, true, true, true], [true, true, true, true, true, true, true, true, false, true, true, true, true, true, true, true, true, true, true], [true, true, true, true, true, true, true, true, true, true, true, true, true, true, true, true, true, true, true, true], [true, true, true, true, true, true, true, true, true, true, true, true, true, true, true, true, true, true, true, true, true], [true, true, true, true, true, true, true, true, true, true, true, true, true, true, true, true, true, true, true, true, true, true]] (by kernel_rfl) (by kernel_rfl) (by kernel_rfl) ?_)
    (repeat' (first | (((with_reducible refine c_go ?_ ?_); (· exact rfl); refine ⟨_, fun G => (by (try simp (decide := true) only [vis, fltT, entsT, Nat.reduceAdd, Nat.reduceSub, if_true, if_false, List.set_cons_zero, List.set_cons_succ, List.set_nil, List.nil_append, List.cons_append]); rfl), ?_⟩); first | refine c_val _ (fun _ => e_move rfl rfl) (fun _ => rfl) rfl (by first | exact fun _ _ _ => rfl | (intro G G' h; simp (decide := true) only [h])) ?_ | refine c_val _ (fun _ => e_load' rfl rfl (by exact rfl)) (fun _ => rfl) rfl (by first | exact fun _ _ _ => rfl | (intro G G' h; simp (decide := true) only [h])) ?_ | refine c_val _ (fun _ => e_field rfl rfl) (fun _ => rfl) rfl (by first | exact fun _ _ _ => rfl | (intro G G' h; simp (decide := true) only [h])) ?_ | refine c_val _ (fun _ => e_assign rfl rfl) (fun _ => rfl) rfl (by first | exact fun _ _ _ => rfl | (intro G G' h; simp (decide := true) only [h])) ?_ | refine c_gives _ rfl (fun _ => rfl) rfl (fun _ => rfl) (fun _ => rfl) (fun _ _ _ q => choose_any ch C cc _ (2 * i) _ (hk.below q.below) hf (by omega)) (by first | exact fun _ _ _ => rfl | (intro G G' h; simp (decide := true) only [h])) ?_ | refine c_gives _ rfl (fun _ => rfl) rfl (fun _ => rfl) (fun _ => rfl) (fun _ _ _ q => choose_any ch C cc _ (2 * i + 1) _ (hk.below q.below) hf (by omega)) (by first | exact fun _ _ _ => rfl | (intro G G' h; simp (decide := true) only [h])) ?_ | refine c_gives _ rfl (fun _ => rfl) rfl (fun _ => rfl) (fun _ => rfl) (fun _ _ _ q => some_any z.long _ _ (by omega) (by omega) (by omega) hc1) (by first | exact fun _ _ _ => rfl | (intro G G' h; simp (decide := true) only [h])) ?_ | refine c_gives _ rfl (fun _ => rfl) rfl (fun _ => rfl) (fun _ => rfl) (fun _ _ _ q => some_any z.fall _ _ (by omega) (by omega) (by omega) hc2) (by first | exact fun _ _ _ => rfl | (intro G G' h; simp (decide := true) only [h])) ?_ | refine c_val _ (fun _ => e_add rfl rfl rfl (IntWalk.i64_in _ (by omega))) (fun _ => rfl) rfl (by first | exact fun _ _ _ => rfl | (intro G G' h; simp (decide := true) only [h])) ?_ | refine c_val _ (fun _ => e_mul rfl rfl rfl (IntWalk.i64_in _ (by omega))) (fun _ => rfl) rfl (by first | exact fun _ _ _ => rfl | (intro G G' h; simp (decide := true) only [h])) ?_ | refine c_buildSlice rfl (fun _ => rfl) rfl (fun _ => rfl) (by exact rfl) (by exact fun _ => rfl) (by first | exact fun _ _ _ => rfl | (intro G G' h; simp (decide := true) only [h])) ?_) | (refine c_appendI (enc := encI) (xs := (truthL t ch).take i) (vx := v1) [someI z.long (chooseI ch (2 * i))] List.mem_cons_self rfl rfl (fun _ => rfl) rfl (fun _ => rfl) (fun _ => rfl) rfl (fun G => (by (try simp (decide := true) only [vis, fltT, entsT, Nat.reduceAdd, Nat.reduceSub, if_true, if_false, List.set_cons_zero, List.set_cons_succ, List.set_nil, List.nil_append, List.cons_append]); rfl)) (fun _ W hW h => src_one (enc := encI) (by exact rfl) W hW h) ⟨by simp; omega, by decide⟩ ?_) | (refine c_appendI (enc := encI) (xs := (truthF t ch).take i) (vx := v2) [someI z.fall (chooseI ch (2 * i + 1))] (List.mem_cons_of_mem _ List.mem_cons_self) rfl rfl (fun _ => rfl) rfl (fun _ => rfl) (fun _ => rfl) rfl (fun G => (by (try simp (decide := true) only [vis, fltT, entsT, Nat.reduceAdd, Nat.reduceSub, if_true, if_false, List.set_cons_zero, List.set_cons_succ, List.set_nil, List.nil_append, List.cons_append]); rfl)) (fun _ W hW h => src_one (enc := encI) (by exact rfl) W hW h) ⟨by simp; omega, by decide⟩ ?_) | (with_reducible refine c_nil ?_)))
    intro G
    simp only [regsT, List.nil_append, List.cons_append]
    refine u_own (H' := [.row encI 1 3 (.slice (G 20).A ((truthF t ch).take i ++ [someI z.fall (chooseI ch (2 * i + 1))]).length (G 20).m) ((truthF t ch).take i ++ [someI z.fall (chooseI ch (2 * i + 1))]), .blk (G 19).g (encI (someI z.fall (chooseI ch (2 * i + 1)))), .row encI 1 3 (.slice (G 9).A ((truthL t ch).take i ++ [someI z.long (chooseI ch (2 * i))]).length (G 9).m) ((truthL t ch).take i ++ [someI z.long (chooseI ch (2 * i))]), .blk (G 8).g (encI (someI z.long (chooseI ch (2 * i)))), .blk b (encSt z), .blk b2 [.slice (some ⟨ba, oa, none⟩) t.length ca]]) (fun _ h => h) ?_
    (repeat' (first | ((with_reducible refine isOps ?_); first | refine u_move rfl rfl rfl rfl rfl ?_ | refine u_add1 rfl rfl rfl rfl rfl rfl (by omega) ?_) | (with_reducible first | refine u_region ?_ | refine u_nil ?_ | refine u_then_n ?_ | refine u_in_n ?_)))
    refine u_again (i + 1, .slice (G 9).A ((truthL t ch).take i ++ [someI z.long (chooseI ch (2 * i))]).length (G 9).m, .slice (G 20).A ((truthF t ch).take i ++ [someI z.fall (chooseI ch (2 * i + 1))]).length (G 20).m) (by simp only; omega) (by simp only; omega) (by (first | exact fun _ _ h => lk_nil h | (repeat (first | exact (fun _ _ h => lk_nil h) | (refine lk_sub rfl ?_))))) ?_
    rw [e1, e2]
    (repeat (first | exact Out.nil _ | (refine Out.cons (by (repeat (first | exact Take.here _ _ | apply Take.there))) ?_)))
  · obtain rfl : i = t.length := by omega
    have e1 : (truthL t ch).take t.length = truthL t ch := List.take_of_length_le (by omega)
    have e2 : (truthF t ch).take t.length = truthF t ch := List.take_of_length_le (by omega)
    rw [e1, e2]
    (repeat' (first | ((with_reducible refine isOps ?_); first | refine u_move rfl rfl rfl rfl rfl ?_ | refine u_assign rfl rfl rfl rfl rfl ?_ | (refine u_cmp rfl rfl rfl rfl rfl rfl rfl (fun h => ?_) (fun h => ?_) <;> (dsimp only [cmpP] at h; (try (exfalso; omega))))) | (with_reducible first | refine u_seq ?_ | refine u_region ?_ | refine u_nil ?_ | refine u_then_n ?_ | refine u_ret ?_ | refine u_exit ?_ | refine u_in_same ?_ | refine u_then_e ?_) | ((with_reducible refine u_cond_f ?_ ?_); (· exact rfl))))
    refine u_row_cap (xs := truthL t ch) (enc := encI) (by (repeat (first | exact Take.here _ _ | apply Take.there))) ?_
    rintro A1 c1 rfl k1
    refine u_row_cap (xs := truthF t ch) (enc := encI) (by (repeat (first | exact Take.here _ _ | apply Take.there))) ?_
    rintro A2 c2 rfl k2
    exact u_done (by (exact ResL.cons (by exact Res1.tmp rfl) (ResL.cons (by exact Res1.tmp rfl) ResL.nil))) ((A1, c1), (A2, c2)) ⟨k1, k2⟩ rfl (fun _ h => ((h.row_sl (xs := truthL t ch) (by (repeat (first | exact Take.here _ _ | apply Take.there)))).row_sl (xs := truthF t ch) (by (repeat (first | exact Take.here _ _ | apply Take.there)))).sub (by (repeat (first | exact Out.nil _ | (refine Out.cons (by (repeat (first | exact Take.here _ _ | apply Take.there))) ?_)))))
end Two
end Go.Proofs.Ytekjkaoibcfgfaa
/- tell: measures that a truth agrees with. -/
namespace Go.Proofs.Ytekjkaoibcfgfaa
open Go.RowKit
set_option maxRecDepth 20000
set_option linter.unusedSimpArgs false
set_option linter.unusedVariables false

theorem diff_bd {l : List Int} (hb : ∀ x ∈ l, 0 ≤ x ∧ x ≤ 30000) (hl : l.length ≤ 12) {a b : Nat} (h : a ≤ b) : 0 ≤ diffM l a b ∧ diffM l a b ≤ 360000 := by
  have h1 := pre_mono hb h
  have h2 := pre_bd hb b
  have h3 := pre_bd hb a
  unfold diffM
  omega
theorem sum_x (l : List Int) (A : Option Addr) (cap : Nat) (x y : Int) (w : World) (hk : SlAt encI 1 w A l) (h0 : 0 ≤ x) (h1 : x ≤ y) (h2 : y ≤ l.length) (hc : l.length ≤ cap) (hb : ∀ x ∈ l, 0 ≤ x ∧ x ≤ 30000) (hl : l.length ≤ 100) :
    Gv Try.prog 53 [.slice A l.length cap, .int .i64 x, .int .i64 y] w (.int .i64 (diffM l x.toNat y.toNat)) := by
  obtain ⟨a, rfl⟩ := Int.eq_ofNat_of_zero_le h0
  obtain ⟨b, rfl⟩ := Int.eq_ofNat_of_zero_le (Int.le_trans h0 h1)
  have := sum_any l A cap a b w hk (by omega) (by omega) hc hb hl
  rw [sum_diff (by omega)] at this
  simpa using this
set_option maxHeartbeats 1000000 in
theorem tell_any (L F ch : List Int) (A B C : Option Addr) (ca cb cc many : Nat) (w : World) (hA : SlAt encI 1 w A L) (hB : SlAt encI 1 w B F) (hC : SlAt encU 1 w C ch) (hca : L.length ≤ ca) (hcb : F.length ≤ cb) (hf : FitC ch) (hL : 1 ≤ L.length) (h12 : L.length ≤ 12) (hF : F.length = L.length) (bL : ∀ x ∈ L, 0 ≤ x ∧ x ≤ 30000) (bF : ∀ x ∈ F, 0 ≤ x ∧ x ≤ 30000) (hm : many ≤ 12) :
    NewSl encMe 5 (tells L F ch many) (fun v => v) Try.prog 46 [.slice A L.length ca, .slice B F.length cb, .slice C ch.length cc, .int .i64 (many : Int)] w := by
  unfold NewSl
  (refine ret_enter (n := 82) Try.func46 rfl rfl rfl ?_)
  (repeat' (first | ((with_reducible refine isOps ?_); first | refine u_move rfl rfl rfl rfl rfl ?_ | refine u_assign rfl rfl rfl rfl rfl ?_) | (with_reducible first | refine u_seq ?_ | refine u_region ?_ | refine u_nil ?_ | refine u_then_n ?_ | refine u_block ?_)))
  refine u_row_nil encMe 5 73 ?_
  refine u_loop (ι := Nat × Value) (fun i => i.1 ≤ many) (fun i => [(0, .slice A L.length ca), (1, .slice B F.length cb), (2, .slice C ch.length cc), (9, i.2), (16, .int .i64 (many : Int)), (17, .int .i64 (i.1 : Int))]) (fun i => [.row encMe 5 73 i.2 (tells L F ch i.1)]) (fun i => many - i.1) (0, .slice none 0 0) (Nat.zero_le _) (by (first | exact fun _ _ h => lk_nil h | (repeat (first | exact (fun _ _ h => lk_nil h) | (refine lk_sub rfl ?_))))) (by (repeat (first | exact Out.nil _ | (refine Out.cons (by (repeat (first | exact Take.here _ _ | apply Take.there))) ?_)))) ?_
  rintro ⟨i, v⟩ hi
  simp only at hi ⊢
  have hlen := tells_len (L := L) (F := F) (ch := ch) (many := i)
  by_cases hlt : i < many
  · have hp := tell_place (ch := ch) hL i
    have h0 := (chooseI_bd hf (7 * i)).1
    have h1 := (chooseI_bd hf (7 * i + 1)).1
    have h2 := (chooseI_bd hf (7 * i + 2)).1
    have h3 := (chooseI_bd hf (7 * i + 3)).1
    have h4 := (chooseI_bd hf (7 * i + 4)).1
    have e5 := tells_succ (L := L) (F := F) (ch := ch) (i := i)
    unfold tellI tellSum tellTo tellFrm tellOdd at e5
    unfold tellTo tellFrm at hp
    (repeat' (first | ((with_reducible refine isOps ?_); first | refine u_move rfl rfl rfl rfl rfl ?_ | refine u_assign rfl rfl rfl rfl rfl ?_ | (refine u_cmp rfl rfl rfl rfl rfl rfl rfl (fun h => ?_) (fun h => ?_) <;> (dsimp only [cmpP] at h; (try (exfalso; omega)))) | refine u_gives rfl rfl rfl rfl rfl rfl (fun _ _ q => choose_any ch C cc _ (7 * i) _ (hC.below q.below) hf (by omega)) ?_ | refine u_add rfl rfl rfl rfl rfl rfl (IntWalk.i64_in _ (by omega)) ?_ | refine u_mul rfl rfl rfl rfl rfl rfl (IntWalk.i64_in _ (by omega)) ?_ | refine u_len rfl rfl rfl rfl rfl ?_ | refine u_rem rfl rfl rfl rfl rfl rfl (by omega) (by omega) ?_) | (with_reducible first | refine u_seq ?_ | refine u_region ?_ | refine u_nil ?_ | refine u_then_n ?_ | refine u_skip ?_ | refine u_block ?_) | ((with_reducible refine u_cond_t ?_ ?_); (· exact rfl))))
    generalize chooseI ch (7 * i) = y0 at *
    generalize y0 % (L.length : Int) = fr at *
    (repeat' (first | ((with_reducible refine isOps ?_); first | refine u_move rfl rfl rfl rfl rfl ?_ | refine u_assign rfl rfl rfl rfl rfl ?_ | refine u_gives rfl rfl rfl rfl rfl rfl (fun _ _ q => choose_any ch C cc _ (7 * i + 1) _ (hC.below q.below) hf (by omega)) ?_ | refine u_add rfl rfl rfl rfl rfl rfl (IntWalk.i64_in _ (by omega)) ?_ | refine u_sub rfl rfl rfl rfl rfl rfl (IntWalk.i64_in _ (by omega)) ?_ | refine u_len rfl rfl rfl rfl rfl ?_ | (refine x_store rfl rfl rfl rfl rfl ?_; refine And.intro rfl (And.intro (by first | decide | exact Nat.le_of_ble_eq_true rfl | (simp; omega)) ⟨_, rfl, ?_⟩)) | (refine u_alloc rfl rfl rfl rfl (fun b => ?_)) | (refine x_build rfl rfl rfl rfl rfl ?_; refine ⟨_, rfl, ?_⟩) | refine u_rem rfl rfl rfl rfl rfl rfl (by omega) (by omega) ?_) | (with_reducible first | refine u_seq ?_ | refine u_region ?_ | refine u_nil ?_ | refine u_then_n ?_)))
    generalize chooseI ch (7 * i + 1) = y1 at *
    generalize fr + 1 + y1 % ((L.length : Int) - fr) = to at *
    have d1 := diff_bd bL h12 (show fr.toNat ≤ to.toNat by omega)
    have d2 := diff_bd bF (by omega) (show fr.toNat ≤ to.toNat by omega)
    by_cases ho : chooseI ch (7 * i + 2) % 2 = 1
    · simp only [ho, decide_true, cond_true] at e5
      obtain ⟨me, hme⟩ : ∃ me : Me, me = ⟨2, fr, to, ⟨max 0 (diffM F fr.toNat to.toNat - chooseI ch (7 * i + 3) % 50), min 360000 (diffM F fr.toNat to.toNat + chooseI ch (7 * i + 4) % 50)⟩⟩ := ⟨_, rfl⟩
      rw [← hme] at e5
      (repeat' (first | ((with_reducible refine isOps ?_); first | refine u_move rfl rfl rfl rfl rfl ?_ | refine u_assign rfl rfl rfl rfl rfl ?_ | (refine x_load rfl rfl rfl rfl rfl ?_; refine ⟨_, rfl, ?_⟩) | refine u_field rfl rfl rfl rfl rfl ?_ | (refine u_cmp rfl rfl rfl rfl rfl rfl rfl (fun h => ?_) (fun h => ?_) <;> (dsimp only [cmpP] at h; (try (exfalso; omega)))) | refine u_gives rfl rfl rfl rfl rfl rfl (fun _ _ q => sum_x L A ca _ _ _ (hA.below q.below) (by omega) (by omega) (by omega) hca bL (by omega)) ?_ | refine u_gives rfl rfl rfl rfl rfl rfl (fun _ _ q => sum_x F B cb _ _ _ (hB.below q.below) (by omega) (by omega) (by omega) hcb bF (by omega)) ?_ | refine u_gives rfl rfl rfl rfl rfl rfl (fun _ _ q => choose_any ch C cc _ (7 * i + 2) _ (hC.below q.below) hf (by omega)) ?_ | refine u_gives rfl rfl rfl rfl rfl rfl (fun _ _ q => choose_any ch C cc _ (7 * i + 3) _ (hC.below q.below) hf (by omega)) ?_ | refine u_gives rfl rfl rfl rfl rfl rfl (fun _ _ q => choose_any ch C cc _ (7 * i + 4) _ (hC.below q.below) hf (by omega)) ?_ | refine u_gives rfl rfl rfl rfl rfl rfl (fun _ _ q => lspan_any _ _ _) ?_ | (refine u_append (enc := encMe) [me] rfl rfl rfl rfl rfl (by (repeat (first | exact Take.here _ _ | apply Take.there))) rfl rfl (src_one (enc := encMe) (by rw [hme]; exact rfl)) (by refine ⟨?_, by decide⟩; (try simp only [List.length_append, List.length_cons, List.length_nil]); omega) (fun A' c' => ?_)) | refine u_add1 rfl rfl rfl rfl rfl rfl (by omega) ?_ | refine u_add rfl rfl rfl rfl rfl rfl (IntWalk.i64_in _ (by omega)) ?_ | refine u_sub rfl rfl rfl rfl rfl rfl (IntWalk.i64_in _ (by omega)) ?_ | (refine x_store rfl rfl rfl rfl rfl ?_; refine And.intro rfl (And.intro (by first | decide | exact Nat.le_of_ble_eq_true rfl | (simp; omega)) ⟨_, rfl, ?_⟩)) | (refine x_buildSlice rfl rfl rfl rfl rfl ?_; refine ⟨rfl, _, rfl, fun b => ?_⟩) | refine u_rem rfl rfl rfl rfl rfl rfl (by omega) (by omega) ?_ | refine u_min rfl rfl rfl rfl rfl rfl ?_ | refine u_max rfl rfl rfl rfl rfl rfl ?_) | (with_reducible first | refine u_seq ?_ | refine u_region ?_ | refine u_nil ?_ | refine u_then_n ?_ | refine u_in_n ?_) | ((with_reducible refine u_cond_t ?_ ?_); (· exact rfl))))
      refine u_again (i + 1, .slice A' (tells L F ch i ++ [me]).length c') (by simp only; omega) (by simp only; omega) (by (first | exact fun _ _ h => lk_nil h | (repeat (first | exact (fun _ _ h => lk_nil h) | (refine lk_sub rfl ?_))))) ?_
      rw [e5]
      (repeat (first | exact Out.nil _ | (refine Out.cons (by (repeat (first | exact Take.here _ _ | apply Take.there))) ?_)))
    · simp only [ho, decide_false, cond_false] at e5
      obtain ⟨me, hme⟩ : ∃ me : Me, me = ⟨1, fr, to, ⟨max 0 (diffM L fr.toNat to.toNat - chooseI ch (7 * i + 3) % 50), min 360000 (diffM L fr.toNat to.toNat + chooseI ch (7 * i + 4) % 50)⟩⟩ := ⟨_, rfl⟩
      rw [← hme] at e5
      (repeat' (first | ((with_reducible refine isOps ?_); first | refine u_move rfl rfl rfl rfl rfl ?_ | refine u_assign rfl rfl rfl rfl rfl ?_ | (refine x_load rfl rfl rfl rfl rfl ?_; refine ⟨_, rfl, ?_⟩) | refine u_field rfl rfl rfl rfl rfl ?_ | (refine u_cmp rfl rfl rfl rfl rfl rfl rfl (fun h => ?_) (fun h => ?_) <;> (dsimp only [cmpP] at h; (try (exfalso; omega)))) | refine u_gives rfl rfl rfl rfl rfl rfl (fun _ _ q => sum_x L A ca _ _ _ (hA.below q.below) (by omega) (by omega) (by omega) hca bL (by omega)) ?_ | refine u_gives rfl rfl rfl rfl rfl rfl (fun _ _ q => choose_any ch C cc _ (7 * i + 2) _ (hC.below q.below) hf (by omega)) ?_ | refine u_gives rfl rfl rfl rfl rfl rfl (fun _ _ q => choose_any ch C cc _ (7 * i + 3) _ (hC.below q.below) hf (by omega)) ?_ | refine u_gives rfl rfl rfl rfl rfl rfl (fun _ _ q => choose_any ch C cc _ (7 * i + 4) _ (hC.below q.below) hf (by omega)) ?_ | refine u_gives rfl rfl rfl rfl rfl rfl (fun _ _ q => lspan_any _ _ _) ?_ | (refine u_append (enc := encMe) [me] rfl rfl rfl rfl rfl (by (repeat (first | exact Take.here _ _ | apply Take.there))) rfl rfl (src_one (enc := encMe) (by rw [hme]; exact rfl)) (by refine ⟨?_, by decide⟩; (try simp only [List.length_append, List.length_cons, List.length_nil]); omega) (fun A' c' => ?_)) | refine u_add1 rfl rfl rfl rfl rfl rfl (by omega) ?_ | refine u_add rfl rfl rfl rfl rfl rfl (IntWalk.i64_in _ (by omega)) ?_ | refine u_sub rfl rfl rfl rfl rfl rfl (IntWalk.i64_in _ (by omega)) ?_ | (refine x_store rfl rfl rfl rfl rfl ?_; refine And.intro rfl (And.intro (by first | decide | exact Nat.le_of_ble_eq_true rfl | (simp; omega)) ⟨_, rfl, ?_⟩)) | (refine x_buildSlice rfl rfl rfl rfl rfl ?_; refine ⟨rfl, _, rfl, fun b => ?_⟩) | refine u_rem rfl rfl rfl rfl rfl rfl (by omega) (by omega) ?_ | refine u_min rfl rfl rfl rfl rfl rfl ?_ | refine u_max rfl rfl rfl rfl rfl rfl ?_) | (with_reducible first | refine u_seq ?_ | refine u_region ?_ | refine u_nil ?_ | refine u_then_n ?_ | refine u_skip ?_ | refine u_in_n ?_) | ((with_reducible refine u_cond_f ?_ ?_); (· exact rfl))))
      refine u_again (i + 1, .slice A' (tells L F ch i ++ [me]).length c') (by simp only; omega) (by simp only; omega) (by (first | exact fun _ _ h => lk_nil h | (repeat (first | exact (fun _ _ h => lk_nil h) | (refine lk_sub rfl ?_))))) ?_
      rw [e5]
      (repeat (first | exact Out.nil _ | (refine Out.cons (by (repeat (first | exact Take.here _ _ | apply Take.there))) ?_)))
  · obtain rfl : i = many := by omega
    (repeat' (first | ((with_reducible refine isOps ?_); first | refine u_move rfl rfl rfl rfl rfl ?_ | refine u_assign rfl rfl rfl rfl rfl ?_ | (refine u_cmp rfl rfl rfl rfl rfl rfl rfl (fun h => ?_) (fun h => ?_) <;> (dsimp only [cmpP] at h; (try (exfalso; omega))))) | (with_reducible first | refine u_seq ?_ | refine u_region ?_ | refine u_nil ?_ | refine u_then_n ?_ | refine u_ret ?_ | refine u_exit ?_ | refine u_in_same ?_ | refine u_then_e ?_) | ((with_reducible refine u_cond_f ?_ ?_); (· exact rfl))))
    refine u_row_form (enc := encMe) (by (repeat (first | exact Take.here _ _ | apply Take.there))) ?_
    rintro A' c' rfl
    exact u_done (by (exact ResL.cons (by exact Res1.tmp rfl) ResL.nil)) (A', c') trivial rfl (fun _ h => (h.row_sl (by (repeat (first | exact Take.here _ _ | apply Take.there)))).sub (by (repeat (first | exact Out.nil _ | (refine Out.cons (by (repeat (first | exact Take.here _ _ | apply Take.there))) ?_)))))
end Go.Proofs.Ytekjkaoibcfgfaa
/- Small rules for the laws: stretches and measures compared; tell, of a number that is drawn. -/
namespace Go.Proofs.Ytekjkaoibcfgfaa
open Go.RowKit
set_option maxRecDepth 20000
set_option linter.unusedSimpArgs false
set_option linter.unusedVariables false

section
variable {w0 : World} {n : Nat} {d : List Deferred} {R : List (Nat × Value)} {H : List Ent} {Q : Exit → Act → World → Prop} {ops : Array Oper} {rest : List Oper} {o : Oper} {t : Tmp} {x y : Operand}
theorem u_nest (s u : St) {T' : TypeId} (hop : o.op = .binOp .neq 82 x y T') (hw : want R ops o = some true) (hd : o.dst = some t) (ht : Nat.blt t n = true) (hx : evR R x = some (vSt s)) (hy : evR R y = some (vSt u))
    (h1 : s = u → U w0 n d ((t, .bool false) :: R) H (wpList Try.prog ops Q rest)) (h2 : ¬ s = u → U w0 n d ((t, .bool true) :: R) H (wpList Try.prog ops Q rest)) : U w0 n d R H (wpList Try.prog ops Q (o :: rest)) :=
  u_eql hop hw hd ht hx hy (fun w => gd_st _ _ _ _ _ w) (fun w => run_neq_vst s u w) (fun h => h2 (by simpa [eqSt] using h)) (fun h => h1 (by simpa [eqSt] using h))
end
section
variable {P : Program} {w0 : World} {n : Nat} {d : List Deferred} {R : List (Nat × Value)} {H : List Ent} {Q : Exit → Act → World → Prop} {ops : Array Oper} {rest : List Oper} {o : Oper} {t : Tmp} {x y : Operand}
/-- what is left over, as a number from nought on -/
theorem u_remN {T T' : TypeId} {k : IntKind} {i j : Int} (J : Nat) (hop : o.op = .binOp .rem T x y T') (hw : want R ops o = some true) (hd : o.dst = some t) (ht : Nat.blt t n = true) (hx : evR R x = some (.int k i)) (hy : evR R y = some (.int k j)) (h0 : 0 ≤ i) (h1 : 0 < j) (hJ : i % j = (J : Int)) (h : U w0 n d ((t, .int k (J : Int)) :: R) H (wpList P ops Q rest)) : U w0 n d R H (wpList P ops Q (o :: rest)) := by
  rw [← hJ] at h
  exact u_rem hop hw hd ht hx hy h0 h1 h
theorem e_remN {T T' : TypeId} {k : IntKind} {i j : Int} (J : Nat) (hop : o.op = .binOp .rem T x y T') (hx : evR R x = some (.int k i)) (hy : evR R y = some (.int k j)) (h0 : 0 ≤ i) (h1 : 0 < j) (hJ : i % j = (J : Int)) : Ev P w0 n d R H o (.int k (J : Int)) := by
  rw [← hJ]
  exact e_rem hop hx hy h0 h1
end
theorem fitM_ok {n : Nat} {l : List Me} (h : msOk n l = true) : FitMs l := fun m hm => by
  have := (msOk_all h).1 m hm
  simp only [meOk, decide_eq_true_eq] at this
  omega
theorem tell_x (L F ch : List Int) (A B C : Option Addr) (ca cb cc many : Nat) (x : Int) (hx : x = (many : Int)) (w : World) (hA : SlAt encI 1 w A L) (hB : SlAt encI 1 w B F) (hC : SlAt encU 1 w C ch) (hca : L.length ≤ ca) (hcb : F.length ≤ cb) (hf : FitC ch) (hL : 1 ≤ L.length) (h12 : L.length ≤ 12) (hF : F.length = L.length) (bL : ∀ x ∈ L, 0 ≤ x ∧ x ≤ 30000) (bF : ∀ x ∈ F, 0 ≤ x ∧ x ≤ 30000) (hm : many ≤ 12) :
    NewSl encMe 5 (tells L F ch many) (fun v => v) Try.prog 46 [.slice A L.length ca, .slice B F.length cb, .slice C ch.length cc, .int .i64 x] w := by
  subst hx
  exact tell_any L F ch A B C ca cb cc many w hA hB hC hca hcb hf hL h12 hF bL bF hm
/-- what a valid track gives of its truths -/
theorem truth_facts {t : List St} {ch : List Int} (hv : valid t = true) : 1 ≤ (truthL t ch).length ∧ (truthL t ch).length ≤ 12 ∧ (truthF t ch).length = (truthL t ch).length ∧ (∀ x ∈ truthL t ch, 0 ≤ x ∧ x ≤ 30000) ∧ (∀ x ∈ truthF t ch, 0 ≤ x ∧ x ≤ 30000) := by
  have hl := valid_len hv
  have ho := valid_okay hv
  refine ⟨by rw [truthL_len]; omega, by rw [truthL_len]; omega, by rw [truthF_len, truthL_len], (truthL_in ho).bd (okSps_longs ho), (truthF_in ho).bd (okSps_falls ho)⟩
theorem readyB_ok {t : List St} (h : readyB t = true) : valid t = true := by
  simp only [readyB, Bool.and_eq_true] at h; exact h.2
theorem row_foot2 {α : Type} {enc : α → List Value} {kk e base m c : Nat} {A : Option Addr} {xs : List α} {H H' : List Ent} {w : World} (ho : Own base w H) (ht : Take H (.row enc kk e (.slice A m c) xs) H') [ei : EncI enc kk] : ∀ b o, A = some ⟨b, o, none⟩ → b < w.heap.size := foot_sl (ho.row_sl ht) (Take.here _ _)
theorem get_getD {l : List Int} {i : Nat} (h : i < l.length) : l[i]? = some (l.getD i 0) := by simp [h]
end Go.Proofs.Ytekjkaoibcfgfaa
