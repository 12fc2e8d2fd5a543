/- Join, of both. -/
import Derived.Test.YtekjkaoibcfgfaaW4
namespace Go.Proofs.Ytekjkaoibcfgfaa
open Go.RowKit
set_option maxRecDepth 20000
set_option linter.unusedSimpArgs false
set_option linter.unusedVariables false

/-- the last Id -/
def lastId (x : Int) : List St → Int
  | [] => x
  | s :: r => lastId s.id r
theorem okFrom_append : ∀ (a b : List St) (x : Int), okFrom x (a ++ b) = (okFrom x a && okFrom (lastId x a) b)
  | [], b, x => by simp [okFrom, lastId]
  | s :: r, b, x => by simp [okFrom, lastId, okFrom_append r b, Bool.and_assoc]
theorem lastId_get : ∀ (a : List St) (x : Int) (n : Nat) (h : a.length = n + 1), lastId x a = (a[n]'(by omega)).id
  | [], _, _, h => by simp at h
  | [s], x, n, h => by simp at h; subst h; simp [lastId]
  | s :: s' :: r, x, n, h => by
    match n, h with
    | n + 1, h =>
      have := lastId_get (s' :: r) s.id n (by simpa using h)
      simpa [lastId] using this
/-- may b stand behind a? -/
theorem valid_join {a b : List St} {n : Nat} (ha : valid a = true) (hb : valid b = true) (hl : a.length + b.length ≤ 12) (hn : a.length = n + 1) (h0 : 0 < b.length) : valid (a ++ b) = decide ((a[n]'(by omega)).id < (b[0]'h0).id) := by
  simp only [valid, Bool.and_eq_true] at ha hb
  have h1 : inB 1 12 ((a ++ b).length : Int) = true := inB_iff.2 (by rw [List.length_append]; omega)
  have hid : -1 < (a[n]'(by omega)).id := by
    have := (okFrom_okay ha.2 (by omega) _ (List.getElem_mem (by omega : n < a.length)))
    have h2 := this.2
    omega
  simp only [valid, h1, Bool.true_and, okFrom_append, ha.2, lastId_get a (-1) n hn]
  match b, h0, hb with
  | s :: r, _, hb =>
    have hb2 := hb.2
    simp only [okFrom, Bool.and_eq_true, stOk, inB_iff] at hb2
    simp only [okFrom, List.getElem_cons_zero]
    by_cases h : (a[n]'(by omega)).id < s.id
    · rw [decide_eq_true h]
      simp only [Bool.and_eq_true, stOk, inB_iff]
      exact ⟨⟨⟨⟨⟨⟨by omega, hb2.1.1.1.1.1.2⟩, hb2.1.1.1.1.2⟩, hb2.1.1.1.2⟩, hb2.1.1.2⟩, hb2.1.2⟩, hb2.2⟩
    · rw [decide_eq_false h]
      have : inB ((a[n]'(by omega)).id + 1) 9999 s.id = false := inB_no.2 (by omega)
      simp [stOk, this]

def errJ (a b : List St) : Int := if valid a && valid b then (if 12 < a.length + b.length then 9 else if valid (a ++ b) then 0 else 8) else 10
def joinT (a b : List St) : List St := if valid a && valid b then (if 12 < a.length + b.length then [] else if valid (a ++ b) then a ++ b else []) else []

set_option maxHeartbeats 2000000 in
theorem join_any (a m : List St) (A B : Option Addr) (ca cb : Nat) (w : World) (ha : SlAt encSt 9 w A a) (hb : SlAt encSt 9 w B m) (fa : FitT a) (fb : FitT m) (hl : a.length ≤ 1000 ∧ m.length ≤ 1000) :
    NewSl encSt 9 (joinT a m) (fun v => .tuple #[.agg #[v], .int .i64 (errJ a m)]) Try.prog 37 [.agg #[.slice A a.length ca], .agg #[.slice B m.length cb]] w := by
  unfold NewSl
  have h1 := fun W (h : Below w.heap.size w W) => check_n a A ca W (ha.below h) fa (by omega)
  have h2 := fun W (h : Below w.heap.size w W) => check_n m B cb W (hb.below h) fb (by omega)
  cases hva : valid a
  · have e1 : joinT a m = [] := by simp [joinT, hva]
    have e2 : errJ a m = 10 := by simp [errJ, hva]
    rw [e1, e2]
    rw [errT_no hva] at h1
    (refine ret_enter (n := 35) Try.func37 rfl rfl rfl ?_)
    (repeat' (first | ((with_reducible refine isOps ?_); first | refine u_move rfl rfl rfl rfl rfl ?_ | refine u_assign rfl rfl rfl rfl rfl ?_ | (refine x_load rfl rfl rfl rfl rfl ?_; refine ⟨_, rfl, ?_⟩) | refine u_pick rfl rfl rfl rfl rfl rfl ?_ | refine u_not_wanted rfl rfl rfl ?_ | (refine u_cmp rfl rfl rfl rfl rfl rfl rfl (fun h => ?_) (fun h => ?_) <;> (dsimp only [cmpP] at h; (try (exfalso; omega)))) | refine u_gives rfl rfl rfl rfl rfl rfl (fun _ _ q => h1 _ q.below) ?_ | (refine x_store rfl rfl rfl rfl rfl ?_; refine And.intro rfl (And.intro (by first | decide | exact Nat.le_of_ble_eq_true rfl | (simp; omega)) ⟨_, rfl, ?_⟩)) | (refine u_alloc rfl rfl rfl rfl (fun b => ?_)) | (refine u_box rfl rfl rfl rfl rfl rfl (fun b => ?_)) | (refine x_build rfl rfl rfl rfl rfl ?_; refine ⟨_, rfl, ?_⟩)) | (with_reducible first | refine u_seq ?_ | refine u_region ?_ | refine u_nil ?_ | refine u_then_n ?_ | refine u_ret ?_ | refine u_then_r ?_) | ((with_reducible refine u_cond_t ?_ ?_); (· exact rfl))))
    exact u_done (by (exact ResL.cons (by exact res1c rfl (by exact rfl)) (ResL.cons (by exact Res1.tmp rfl) ResL.nil))) (none, 0) trivial rfl (fun _ h => sl_nil h)
  rw [errT_yes hva] at h1
  cases hvb : valid m
  · have e1 : joinT a m = [] := by simp [joinT, hvb]
    have e2 : errJ a m = 10 := by simp [errJ, hvb]
    rw [e1, e2]
    rw [errT_no hvb] at h2
    (refine ret_enter (n := 35) Try.func37 rfl rfl rfl ?_)
    (repeat' (first | ((with_reducible refine isOps ?_); first | refine u_move rfl rfl rfl rfl rfl ?_ | refine u_assign rfl rfl rfl rfl rfl ?_ | (refine x_load rfl rfl rfl rfl rfl ?_; refine ⟨_, rfl, ?_⟩) | refine u_pick rfl rfl rfl rfl rfl rfl ?_ | (refine u_cmp rfl rfl rfl rfl rfl rfl rfl (fun h => ?_) (fun h => ?_) <;> (dsimp only [cmpP] at h; (try (exfalso; omega)))) | refine u_gives rfl rfl rfl rfl rfl rfl (fun _ _ q => h1 _ q.below) ?_ | refine u_gives rfl rfl rfl rfl rfl rfl (fun _ _ q => h2 _ q.below) ?_ | (refine x_store rfl rfl rfl rfl rfl ?_; refine And.intro rfl (And.intro (by first | decide | exact Nat.le_of_ble_eq_true rfl | (simp; omega)) ⟨_, rfl, ?_⟩)) | (refine u_alloc rfl rfl rfl rfl (fun b => ?_)) | (refine u_box rfl rfl rfl rfl rfl rfl (fun b => ?_)) | (refine x_build rfl rfl rfl rfl rfl ?_; refine ⟨_, rfl, ?_⟩)) | (with_reducible first | refine u_seq ?_ | refine u_region ?_ | refine u_nil ?_ | refine u_then_n ?_ | refine u_ret ?_ | refine u_then_r ?_) | ((with_reducible refine u_cond_t ?_ ?_); (· exact rfl))))
    exact u_done (by (exact ResL.cons (by exact res1c rfl (by exact rfl)) (ResL.cons (by exact Res1.tmp rfl) ResL.nil))) (none, 0) trivial rfl (fun _ h => sl_nil h)
  rw [errT_yes hvb] at h2
  have la := valid_len hva
  have lb := valid_len hvb
  have h3 := fun bb W (h : Below w.heap.size w W) i => concat_any a m A B ca cb bb W (ha.below h) (hb.below h) (by omega) (by omega) i
  have hab : FitT (a ++ m) := fun s hs => by
    rcases List.mem_append.1 hs with h | h
    · exact fa s h
    · exact fb s h
  have hlen : (a ++ m).length = a.length + m.length := List.length_append
  have h4 := fun A' c' W hs => check_n (a ++ m) A' c' W hs hab (by omega)
  by_cases h12 : 12 < a.length + m.length
  · have e1 : joinT a m = [] := by simp [joinT, hva, hvb, h12]
    have e2 : errJ a m = 9 := by simp [errJ, hva, hvb, h12]
    rw [e1, e2]
    generalize a ++ m = ab at *
    (refine ret_enter (n := 35) Try.func37 rfl rfl rfl ?_)
    (repeat' (first | ((with_reducible refine isOps ?_); first | refine u_move rfl rfl rfl rfl rfl ?_ | refine u_assign rfl rfl rfl rfl rfl ?_ | (refine x_load rfl rfl rfl rfl rfl ?_; refine ⟨_, rfl, ?_⟩) | refine u_field rfl rfl rfl rfl rfl ?_ | refine u_pick rfl rfl rfl rfl rfl rfl ?_ | (refine u_cmp rfl rfl rfl rfl rfl rfl rfl (fun h => ?_) (fun h => ?_) <;> (dsimp only [cmpP] at h; (try (exfalso; omega)))) | refine u_gives rfl rfl rfl rfl rfl rfl (fun _ _ q => h1 _ q.below) ?_ | refine u_gives rfl rfl rfl rfl rfl rfl (fun _ _ q => h2 _ q.below) ?_ | refine u_newsl rfl rfl rfl rfl rfl rfl (fun _ _ q => h3 _ _ q.below (cells_of q.own (Below.refl _ _))) (fun A' c' => ?_) | refine u_len rfl rfl rfl rfl rfl ?_ | (refine x_store rfl rfl rfl rfl rfl ?_; refine And.intro rfl (And.intro (by first | decide | exact Nat.le_of_ble_eq_true rfl | (simp; omega)) ⟨_, rfl, ?_⟩)) | (refine u_alloc rfl rfl rfl rfl (fun b => ?_)) | (refine u_box rfl rfl rfl rfl rfl rfl (fun b => ?_)) | (refine x_build rfl rfl rfl rfl rfl ?_; refine ⟨_, rfl, ?_⟩) | (refine x_buildSlice rfl rfl rfl rfl rfl ?_; refine ⟨rfl, _, rfl, fun b => ?_⟩)) | (with_reducible first | refine u_seq ?_ | refine u_region ?_ | refine u_nil ?_ | refine u_then_n ?_ | refine u_ret ?_ | refine u_skip ?_ | refine u_then_r ?_ | refine u_block ?_ | refine u_in_r ?_) | ((with_reducible refine u_cond_t ?_ ?_); (· exact rfl)) | ((with_reducible refine u_cond_f ?_ ?_); (· exact rfl))))
    exact u_done (by (exact ResL.cons (by exact res1c rfl (by exact rfl)) (ResL.cons (by exact Res1.tmp rfl) ResL.nil))) (none, 0) trivial rfl (fun _ h => sl_nil h)
  cases hvj : valid (a ++ m)
  · have e1 : joinT a m = [] := by simp [joinT, hva, hvb, h12, hvj]
    have e2 : errJ a m = 8 := by simp [errJ, hva, hvb, h12, hvj]
    rw [e1, e2]
    rw [errT_no hvj] at h4
    generalize a ++ m = ab at *
    (refine ret_enter (n := 35) Try.func37 rfl rfl rfl ?_)
    (repeat' (first | ((with_reducible refine isOps ?_); first | refine u_move rfl rfl rfl rfl rfl ?_ | refine u_assign rfl rfl rfl rfl rfl ?_ | (refine x_load rfl rfl rfl rfl rfl ?_; refine ⟨_, rfl, ?_⟩) | refine u_field rfl rfl rfl rfl rfl ?_ | refine u_pick rfl rfl rfl rfl rfl rfl ?_ | (refine u_cmp rfl rfl rfl rfl rfl rfl rfl (fun h => ?_) (fun h => ?_) <;> (dsimp only [cmpP] at h; (try (exfalso; omega)))) | refine u_gives rfl rfl rfl rfl rfl rfl (fun _ _ q => h1 _ q.below) ?_ | refine u_gives rfl rfl rfl rfl rfl rfl (fun _ _ q => h2 _ q.below) ?_ | refine u_newsl rfl rfl rfl rfl rfl rfl (fun _ _ q => h3 _ _ q.below (cells_of q.own (Below.refl _ _))) (fun A' c' => ?_) | refine u_gives rfl rfl rfl rfl rfl rfl (fun _ _ q => h4 _ _ _ (sl_at q.own (Below.refl _ _))) ?_ | refine u_len rfl rfl rfl rfl rfl ?_ | (refine x_store rfl rfl rfl rfl rfl ?_; refine And.intro rfl (And.intro (by first | decide | exact Nat.le_of_ble_eq_true rfl | (simp; omega)) ⟨_, rfl, ?_⟩)) | (refine u_alloc rfl rfl rfl rfl (fun b => ?_)) | (refine u_box rfl rfl rfl rfl rfl rfl (fun b => ?_)) | (refine x_build rfl rfl rfl rfl rfl ?_; refine ⟨_, rfl, ?_⟩) | (refine x_buildSlice rfl rfl rfl rfl rfl ?_; refine ⟨rfl, _, rfl, fun b => ?_⟩)) | (with_reducible first | refine u_seq ?_ | refine u_region ?_ | refine u_nil ?_ | refine u_then_n ?_ | refine u_ret ?_ | refine u_skip ?_ | refine u_then_r ?_ | refine u_block ?_ | refine u_in_r ?_) | ((with_reducible refine u_cond_t ?_ ?_); (· exact rfl)) | ((with_reducible refine u_cond_f ?_ ?_); (· exact rfl))))
    exact u_done (by (exact ResL.cons (by exact res1c rfl (by exact rfl)) (ResL.cons (by exact Res1.tmp rfl) ResL.nil))) (none, 0) trivial rfl (fun _ h => sl_nil h)
  · have e1 : joinT a m = a ++ m := by simp [joinT, hva, hvb, h12, hvj]
    have e2 : errJ a m = 0 := by simp [errJ, hva, hvb, h12, hvj]
    rw [e1, e2]
    rw [errT_yes hvj] at h4
    generalize a ++ m = ab at *
    (refine ret_enter (n := 35) Try.func37 rfl rfl rfl ?_)
    (repeat' (first | ((with_reducible refine isOps ?_); first | refine u_move rfl rfl rfl rfl rfl ?_ | refine u_assign rfl rfl rfl rfl rfl ?_ | (refine x_load rfl rfl rfl rfl rfl ?_; refine ⟨_, rfl, ?_⟩) | refine u_field rfl rfl rfl rfl rfl ?_ | refine u_pick rfl rfl rfl rfl rfl rfl ?_ | (refine u_cmp rfl rfl rfl rfl rfl rfl rfl (fun h => ?_) (fun h => ?_) <;> (dsimp only [cmpP] at h; (try (exfalso; omega)))) | refine u_gives rfl rfl rfl rfl rfl rfl (fun _ _ q => h1 _ q.below) ?_ | refine u_gives rfl rfl rfl rfl rfl rfl (fun _ _ q => h2 _ q.below) ?_ | refine u_newsl rfl rfl rfl rfl rfl rfl (fun _ _ q => h3 _ _ q.below (cells_of q.own (Below.refl _ _))) (fun A' c' => ?_) | refine u_gives rfl rfl rfl rfl rfl rfl (fun _ _ q => h4 _ _ _ (sl_at q.own (Below.refl _ _))) ?_ | refine u_len rfl rfl rfl rfl rfl ?_ | (refine x_store rfl rfl rfl rfl rfl ?_; refine And.intro rfl (And.intro (by first | decide | exact Nat.le_of_ble_eq_true rfl | (simp; omega)) ⟨_, rfl, ?_⟩)) | (refine u_alloc rfl rfl rfl rfl (fun b => ?_)) | (refine u_box rfl rfl rfl rfl rfl rfl (fun b => ?_)) | (refine x_build rfl rfl rfl rfl rfl ?_; refine ⟨_, rfl, ?_⟩) | (refine x_buildSlice rfl rfl rfl rfl rfl ?_; refine ⟨rfl, _, rfl, fun b => ?_⟩)) | (with_reducible first | refine u_seq ?_ | refine u_region ?_ | refine u_nil ?_ | refine u_then_n ?_ | refine u_ret ?_ | refine u_skip ?_ | refine u_block ?_ | refine u_in_n ?_) | ((with_reducible refine u_cond_f ?_ ?_); (· exact rfl))))
    exact u_done (by (exact ResL.cons (by exact res1c rfl (by exact rfl)) (ResL.cons (by exact Res1.tmp rfl) ResL.nil))) (_, _) trivial rfl (fun _ h => h.sub (by (repeat (first | exact Out.nil _ | (refine Out.cons (by (repeat (first | exact Take.here _ _ | apply Take.there))) ?_)))))

section
variable {S : Pend} {P : Program} {w0 : World} {n : Nat} {d : List Deferred} {R0 : List (Nat × Value)} {H0 : List Ent} {Q : Exit → Act → World → Prop} {ops : Array Oper} {bs : List (List Bool)} {b : List Bool} {k : Nat} {o : Oper} {rest : List Oper} {T : List Rw} {t : Tmp} {Hk : Wits → List Ent} {x y : Operand}
/-- append to a slice without room, in a region whose order is left open: a new row -/
theorem c_appendNew {α : Type} {enc : α → List Value} {kk e T1 bytes m cc : Nat} {A : Option Addr} {gx : Wits → Nat} [el : ElI P T1 e kk bytes] [ei : EncI enc kk] (ys : List α) (hop : o.op = .call { callee := .builtin .append, args := #[x, y], argTypes := #[T1, T1] }) (hw : ∀ G, want (Rk R0 ops b o T G) ops o = some true) (hd : o.dst = some t)
    (hx : ∀ G, evR (Rk R0 ops b o T G) x = some (.slice (some ⟨gx G, 0, none⟩) 0 0)) (hy : ∀ G, evR (Rk R0 ops b o T G) y = some (.slice A m cc)) (hm : m = ys.length) (hs : ∀ w, Below w0.heap.size w0 w → SlAt enc kk w A ys) (h0 : 0 < ys.length) (hl : ys.length ≤ 1000000 ∧ bytes ≤ 1000000)
    (h : Chain S P w0 n d ops R0 H0 Q bs (k + 1) rest (⟨k, some t, fun G => (.slice (some ⟨(G k).g, 0, none⟩) ys.length (G k).m, [.row enc kk e (.slice (some ⟨(G k).g, 0, none⟩) ys.length (G k).m) ys])⟩ :: T)) : CAt S P w0 n d ops R0 H0 Q b bs k o rest T Hk := by
  subst hm
  refine c_row (f := fun G => (.slice (some ⟨(G k).g, 0, none⟩) ys.length (G k).m, [.row enc kk e (.slice (some ⟨(G k).g, 0, none⟩) ys.length (G k).m) ys])) (fun G G' hG => by simp only [hG k (.inl rfl)]) (fun G a w q K hK => ?_) (by rw [hd]; exact h)
  rw [want_ok q (hw G), if_pos rfl]
  obtain ⟨z, hE⟩ := el.el
  obtain ⟨i, i1, i2, i3, i4⟩ := hE.info
  have hsl := hs w q.below
  obtain ⟨ab, ao, rfl, _⟩ := hsl.at_ h0
  have hlen : (ys.flatMap enc).length = ys.length * kk := by
    simp [List.length_flatMap, ei.len, List.map_const', List.sum_replicate_nat]
  have hmul : ys.length * i.bytes ≤ 1000000 * 1000000 := Nat.mul_le_mul hl.1 (by omega)
  have hnews : ∀ j u, (ys.flatMap enc)[j]? = some u → w.cell? ((⟨ab, ao, none⟩ : Addr).add j) = some u := fun j u hu => by
    obtain ⟨i, y, l, hi, hl, rfl⟩ := flat_inv ei.len ys j u hu
    obtain ⟨b, o, hb, hlt, hc⟩ := hsl i y hi
    cases hb
    have e1 : (⟨ab, ao, none⟩ : Addr).add (i * kk + l) = ⟨ab, ao + i * kk + l, none⟩ := by rw [addr_add]; congr 1; omega
    rw [e1]; exact hc l u hl
  have key := run_append_grow (P := P) (w := w) T1 o.type e i z hE.under i1 i2 ⟨gx G, 0, none⟩ 0 0 [] (by simp) (by simp) ⟨ab, ao, none⟩ ys.length cc (ys.flatMap enc) (by rw [i3]; exact hlen) hnews (by omega) (by omega)
    (by rw [Nat.zero_add, nextslicecap_zero h0]; omega)
  rw [Nat.zero_add] at key
  unfold Oper.wp execOp
  simp only [hop, resolve, invoke, builtin, Sem.run_bind, Sem.run_pure, Result.andThen_ok, List.map_toArray, List.map_cons, List.map_nil, q.ev (hx G), q.ev (hy G), key, Oper.upon_value]
  have hge := grownCap_ge w ys.length 0 e
  refine hK (.slice (some ⟨w.heap.size, 0, none⟩) ys.length (grownCap w ys.length 0 e)) [.row enc kk e (.slice (some ⟨w.heap.size, 0, none⟩) ys.length (grownCap w ys.length 0 e)) ys] _ ⟨⟨w.heap.size, none, grownCap w ys.length 0 e⟩, by simp [upW]⟩ ?_ ⟨?_, ?_, by simp⟩
  · exact ⟨rfl, rfl, rfl, by simp, fun k hk => Below.heap_alloc _ _ _ hk⟩
  · intro f hf
    simp only [List.mem_singleton] at hf
    subst hf
    refine (?_ : World.ownsRow _ 0 e kk (.slice (some ⟨w.heap.size, 0, none⟩) ys.length (grownCap w ys.length 0 e)) ys.length (ys.flatMap enc))
    refine ⟨hlen, .inr ⟨w.heap.size, _, _, rfl, Nat.zero_le _, heap_alloc_new w.drew _, hge, grownCap_le_maxLen w ys.length 0 e (by unfold maxLen; omega), ?_, ?_⟩⟩
    · simp only [Array.size_append, List.size_toArray, List.length_nil, Nat.zero_add, size_zeroCells, hE.zs, hlen, ← Nat.add_mul]
      congr 1
      omega
    · simp only [Array.toList_append, List.nil_append, ← hlen]
      exact List.take_left
  · intro f hf b hb
    simp only [List.mem_singleton] at hf
    subst hf
    cases hb
    simp
end

set_option maxHeartbeats 2000000 in
theorem rJoin_any (a m : List St) (A B : Option Addr) (ca cb : Nat) (w : World) (ha : SlAt encSt 9 w A a) (hb : SlAt encSt 9 w B m) (fa : FitT a) (fb : FitT m) (hl : a.length ≤ 1000 ∧ m.length ≤ 1000) :
    NewSl encSt 9 (joinT a m) (fun v => .tuple #[.agg #[v], .int .i64 (errJ a m)]) Try.prog 38 [.agg #[.slice A a.length ca], .agg #[.slice B m.length cb]] w := by
  unfold NewSl
  have h1 := fun W (h : Below w.heap.size w W) => track_n a A ca W (ha.below h) fa (by omega)
  have h2 := fun W (h : Below w.heap.size w W) => track_n m B cb W (hb.below h) fb (by omega)
  cases hva : valid a
  · have e1 : joinT a m = [] := by simp [joinT, hva]
    have e2 : errJ a m = 10 := by simp [errJ, hva]
    rw [e1, e2]
    rw [hva] at h1
    (refine ret_enter (n := 48) Try.func38 rfl rfl rfl ?_)
    (repeat' (first | ((with_reducible refine isOps ?_); first | refine u_move rfl rfl rfl rfl rfl ?_ | refine u_assign rfl rfl rfl rfl rfl ?_ | (refine x_load rfl rfl rfl rfl rfl ?_; refine ⟨_, rfl, ?_⟩) | refine u_pick rfl rfl rfl rfl rfl rfl ?_ | refine u_not_wanted rfl rfl rfl ?_ | refine u_gives rfl rfl rfl rfl rfl rfl (fun _ _ q => h1 _ q.below) ?_ | refine u_not rfl rfl rfl rfl rfl ?_ | (refine x_store rfl rfl rfl rfl rfl ?_; refine And.intro rfl (And.intro (by first | decide | exact Nat.le_of_ble_eq_true rfl | (simp; omega)) ⟨_, rfl, ?_⟩)) | (refine u_alloc rfl rfl rfl rfl (fun b => ?_)) | (refine u_box rfl rfl rfl rfl rfl rfl (fun b => ?_)) | (refine x_build rfl rfl rfl rfl rfl ?_; refine ⟨_, rfl, ?_⟩)) | (with_reducible first | refine u_seq ?_ | refine u_region ?_ | refine u_nil ?_ | refine u_then_n ?_ | refine u_ret ?_ | refine u_then_r ?_) | ((with_reducible refine u_cond_t ?_ ?_); (· exact rfl))))
    exact u_done (by (exact ResL.cons (by exact res1c rfl (by exact rfl)) (ResL.cons (by exact Res1.tmp rfl) ResL.nil))) (none, 0) trivial rfl (fun _ h => sl_nil h)
  rw [hva] at h1
  cases hvb : valid m
  · have e1 : joinT a m = [] := by simp [joinT, hvb]
    have e2 : errJ a m = 10 := by simp [errJ, hvb]
    rw [e1, e2]
    rw [hvb] at h2
    (refine ret_enter (n := 48) Try.func38 rfl rfl rfl ?_)
    (repeat' (first | ((with_reducible refine isOps ?_); first | refine u_move rfl rfl rfl rfl rfl ?_ | refine u_assign rfl rfl rfl rfl rfl ?_ | (refine x_load rfl rfl rfl rfl rfl ?_; refine ⟨_, rfl, ?_⟩) | refine u_pick rfl rfl rfl rfl rfl rfl ?_ | refine u_gives rfl rfl rfl rfl rfl rfl (fun _ _ q => h1 _ q.below) ?_ | refine u_gives rfl rfl rfl rfl rfl rfl (fun _ _ q => h2 _ q.below) ?_ | refine u_not rfl rfl rfl rfl rfl ?_ | (refine x_store rfl rfl rfl rfl rfl ?_; refine And.intro rfl (And.intro (by first | decide | exact Nat.le_of_ble_eq_true rfl | (simp; omega)) ⟨_, rfl, ?_⟩)) | (refine u_alloc rfl rfl rfl rfl (fun b => ?_)) | (refine u_box rfl rfl rfl rfl rfl rfl (fun b => ?_)) | (refine x_build rfl rfl rfl rfl rfl ?_; refine ⟨_, rfl, ?_⟩)) | (with_reducible first | refine u_seq ?_ | refine u_region ?_ | refine u_nil ?_ | refine u_then_n ?_ | refine u_ret ?_ | refine u_then_r ?_) | ((with_reducible refine u_cond_t ?_ ?_); (· exact rfl))))
    exact u_done (by (exact ResL.cons (by exact res1c rfl (by exact rfl)) (ResL.cons (by exact Res1.tmp rfl) ResL.nil))) (none, 0) trivial rfl (fun _ h => sl_nil h)
  rw [hvb] at h2
  have la := valid_len hva
  have lb := valid_len hvb
  by_cases h12 : 12 < a.length + m.length
  · have e1 : joinT a m = [] := by simp [joinT, hva, hvb, h12]
    have e2 : errJ a m = 9 := by simp [errJ, hva, hvb, h12]
    rw [e1, e2]
    (refine ret_enter (n := 48) Try.func38 rfl rfl rfl ?_)
    (repeat' (first | ((with_reducible refine isOps ?_); first | refine u_move rfl rfl rfl rfl rfl ?_ | refine u_assign rfl rfl rfl rfl rfl ?_ | (refine x_load rfl rfl rfl rfl rfl ?_; refine ⟨_, rfl, ?_⟩) | refine u_field rfl rfl rfl rfl rfl ?_ | refine u_pick rfl rfl rfl rfl rfl rfl ?_ | (refine u_cmp rfl rfl rfl rfl rfl rfl rfl (fun h => ?_) (fun h => ?_) <;> (dsimp only [cmpP] at h; (try (exfalso; omega)))) | refine u_gives rfl rfl rfl rfl rfl rfl (fun _ _ q => h1 _ q.below) ?_ | refine u_gives rfl rfl rfl rfl rfl rfl (fun _ _ q => h2 _ q.below) ?_ | refine u_not rfl rfl rfl rfl rfl ?_ | refine u_add rfl rfl rfl rfl rfl rfl (IntWalk.i64_in _ (by omega)) ?_ | refine u_len rfl rfl rfl rfl rfl ?_ | (refine x_store rfl rfl rfl rfl rfl ?_; refine And.intro rfl (And.intro (by first | decide | exact Nat.le_of_ble_eq_true rfl | (simp; omega)) ⟨_, rfl, ?_⟩)) | (refine u_alloc rfl rfl rfl rfl (fun b => ?_)) | (refine u_box rfl rfl rfl rfl rfl rfl (fun b => ?_)) | (refine x_build rfl rfl rfl rfl rfl ?_; refine ⟨_, rfl, ?_⟩)) | (with_reducible first | refine u_seq ?_ | refine u_region ?_ | refine u_nil ?_ | refine u_then_n ?_ | refine u_ret ?_ | refine u_skip ?_ | refine u_then_r ?_) | ((with_reducible refine u_cond_t ?_ ?_); (· exact rfl)) | ((with_reducible refine u_cond_f ?_ ?_); (· exact rfl))))
    exact u_done (by (exact ResL.cons (by exact res1c rfl (by exact rfl)) (ResL.cons (by exact Res1.tmp rfl) ResL.nil))) (none, 0) trivial rfl (fun _ h => sl_nil h)
  obtain ⟨na, hna⟩ : ∃ n, a.length = n + 1 := ⟨a.length - 1, by omega⟩
  have hj := valid_join hva hvb (by omega) hna (by omega)
  have ga : GetI a na (a[na]'(by omega)) := ⟨by simp [hna]⟩
  have gb : GetI m 0 (m[0]'(by omega)) := ⟨by first | (simp; done) | (simp; omega)⟩
  obtain ⟨ba, oa, rfl, _⟩ := ha.at_ (by omega : 0 < a.length)
  obtain ⟨b2, ob, rfl, _⟩ := hb.at_ (by omega : 0 < m.length)
  have ia : InS w ba oa encSt 9 a := ⟨ha⟩
  have ib : InS w b2 ob encSt 9 m := ⟨hb⟩
  have va := fun W (h : Below w.heap.size w W) => ha.below h
  cases hvj : valid (a ++ m)
  · have e1 : joinT a m = [] := by simp [joinT, hva, hvb, h12, hvj]
    have e2 : errJ a m = 8 := by simp [errJ, hva, hvb, h12, hvj]
    rw [e1, e2]
    rw [hvj] at hj
    have hj' := of_decide_eq_false hj.symm
    generalize a[na]'(by omega) = xa at *
    generalize m[0]'(by omega) = xb at *
    (refine ret_enter (n := 48) Try.func38 rfl rfl rfl ?_)
    (repeat' (first | ((with_reducible refine isOps ?_); first | refine u_move rfl rfl rfl rfl rfl ?_ | refine u_assign rfl rfl rfl rfl rfl ?_ | (refine x_load rfl rfl rfl rfl rfl ?_; refine ⟨_, rfl, ?_⟩) | refine u_field rfl rfl rfl rfl rfl ?_ | refine u_pick rfl rfl rfl rfl rfl rfl ?_ | (refine u_cmp rfl rfl rfl rfl rfl rfl rfl (fun h => ?_) (fun h => ?_) <;> (dsimp only [cmpP] at h; (try (exfalso; omega)))) | refine u_gives rfl rfl rfl rfl rfl rfl (fun _ _ q => h1 _ q.below) ?_ | refine u_gives rfl rfl rfl rfl rfl rfl (fun _ _ q => h2 _ q.below) ?_ | refine u_not rfl rfl rfl rfl rfl ?_ | refine u_add rfl rfl rfl rfl rfl rfl (IntWalk.i64_in _ (by omega)) ?_ | refine u_len rfl rfl rfl rfl rfl ?_ | (refine u_alloc rfl rfl rfl rfl (fun b => ?_)) | (refine u_box rfl rfl rfl rfl rfl rfl (fun b => ?_))) | (with_reducible first | refine u_seq ?_ | refine u_region ?_ | refine u_nil ?_ | refine u_then_n ?_ | refine u_skip ?_) | ((with_reducible refine u_cond_f ?_ ?_); (· exact rfl))))
    (refine u_chain (by kernel_rfl) [[], [true], [false, false], [true, false, false], [true, true, false, false], [true, true, true, false, false], [true, true, true, true, true, true], [true, true, true, true, true, true, true], [true, true, true, true, true, true, true, true], [false, false, false, false, false, false, false, false, false], [true, false, false, false, false, false, false, false, false, false], [true, true, false, false, false, false, false, false, false, false, false], [true, true, true, false, false, false, false, false, false, false, false, false], [true, true, true, true, false, false, false, false, false, false, false, false, false], [true, true, true, true, true, true, true, true, true, true, true, true, true, true]] (by kernel_rfl) (by kernel_rfl) ?_)
    (repeat' (first | (((with_reducible refine c_go ?_ ?_); (· exact rfl); refine ⟨_, fun G => (by (try simp only [fltT, entsT, List.nil_append, List.cons_append]); rfl), ?_⟩); first | refine c_val _ (fun _ => e_load' rfl rfl (by exact rfl)) (fun _ => rfl) rfl (by first | exact fun _ _ _ => rfl | (intro G G' h; simp (decide := true) only [h])) ?_ | (refine c_isField rfl ?_; refine c_val _ (fun _ => e_field rfl rfl) (fun _ => rfl) rfl (by first | exact fun _ _ _ => rfl | (intro G G' h; simp (decide := true) only [h])) ?_) | (refine c_cmp rfl rfl (fun _ => rfl) rfl (fun _ => rfl) (fun _ => rfl) (fun h => ?_) (fun h => ?_) <;> (dsimp only [cmpP] at h; (try (exfalso; omega)))) | refine c_val _ (fun _ => e_index (I := na) rfl rfl rfl (by omega) (by omega)) (fun _ => rfl) rfl (by first | exact fun _ _ _ => rfl | (intro G G' h; simp (decide := true) only [h])) ?_ | refine c_val _ (fun _ => e_index (I := 0) rfl rfl rfl rfl (by omega)) (fun _ => rfl) rfl (by first | exact fun _ _ _ => rfl | (intro G G' h; simp (decide := true) only [h])) ?_ | refine c_val _ (fun _ => e_sub rfl rfl rfl (IntWalk.i64_in _ (by omega))) (fun _ => rfl) rfl (by first | exact fun _ _ _ => rfl | (intro G G' h; simp (decide := true) only [h])) ?_ | refine c_val _ (fun _ => e_len rfl rfl) (fun _ => rfl) rfl (by first | exact fun _ _ _ => rfl | (intro G G' h; simp (decide := true) only [h])) ?_) | (with_reducible refine c_nil ?_)))
    all_goals
      (intro G; simp only [regsT, entsT, Pend.at_none, List.nil_append, List.cons_append])
      (repeat' (first | ((with_reducible refine isOps ?_); first | refine u_assign rfl rfl rfl rfl rfl ?_ | (refine x_store rfl rfl rfl rfl rfl ?_; refine And.intro rfl (And.intro (by first | decide | exact Nat.le_of_ble_eq_true rfl | (simp; omega)) ⟨_, rfl, ?_⟩)) | (refine x_build rfl rfl rfl rfl rfl ?_; refine ⟨_, rfl, ?_⟩)) | (with_reducible first | refine u_seq ?_ | refine u_region ?_ | refine u_nil ?_ | refine u_then_n ?_ | refine u_ret ?_ | refine u_then_r ?_) | ((with_reducible refine u_cond_t ?_ ?_); (· exact rfl))))
      exact u_done (by (exact ResL.cons (by exact res1c rfl (by exact rfl)) (ResL.cons (by exact Res1.tmp rfl) ResL.nil))) (none, 0) trivial rfl (fun _ h => sl_nil h)
  · have e1 : joinT a m = a ++ m := by simp [joinT, hva, hvb, h12, hvj]
    have e2 : errJ a m = 0 := by simp [errJ, hva, hvb, h12, hvj]
    rw [e1, e2]
    rw [hvj] at hj
    have hj' := of_decide_eq_true hj.symm
    generalize a[na]'(by omega) = xa at *
    generalize m[0]'(by omega) = xb at *
    (refine ret_enter (n := 48) Try.func38 rfl rfl rfl ?_)
    (repeat' (first | ((with_reducible refine isOps ?_); first | refine u_move rfl rfl rfl rfl rfl ?_ | refine u_assign rfl rfl rfl rfl rfl ?_ | (refine x_load rfl rfl rfl rfl rfl ?_; refine ⟨_, rfl, ?_⟩) | refine u_field rfl rfl rfl rfl rfl ?_ | refine u_pick rfl rfl rfl rfl rfl rfl ?_ | (refine u_cmp rfl rfl rfl rfl rfl rfl rfl (fun h => ?_) (fun h => ?_) <;> (dsimp only [cmpP] at h; (try (exfalso; omega)))) | refine u_gives rfl rfl rfl rfl rfl rfl (fun _ _ q => h1 _ q.below) ?_ | refine u_gives rfl rfl rfl rfl rfl rfl (fun _ _ q => h2 _ q.below) ?_ | refine u_not rfl rfl rfl rfl rfl ?_ | refine u_add rfl rfl rfl rfl rfl rfl (IntWalk.i64_in _ (by omega)) ?_ | refine u_len rfl rfl rfl rfl rfl ?_ | (refine u_alloc rfl rfl rfl rfl (fun b => ?_)) | (refine u_box rfl rfl rfl rfl rfl rfl (fun b => ?_))) | (with_reducible first | refine u_seq ?_ | refine u_region ?_ | refine u_nil ?_ | refine u_then_n ?_ | refine u_skip ?_) | ((with_reducible refine u_cond_f ?_ ?_); (· exact rfl))))
    (refine u_chain (by kernel_rfl) [[], [true], [false, false], [true, false, false], [true, true, false, false], [true, true, true, false, false], [true, true, true, true, true, true], [true, true, true, true, true, true, true], [true, true, true, true, true, true, true, true], [false, false, false, false, false, false, false, false, false], [true, false, false, false, false, false, false, false, false, false], [true, true, false, false, false, false, false, false, false, false, false], [true, true, true, false, false, false, false, false, false, false, false, false], [true, true, true, true, false, false, false, false, false, false, false, false, false], [true, true, true, true, true, true, true, true, true, true, true, true, true, true]] (by kernel_rfl) (by kernel_rfl) ?_)
    (repeat' (first | (((with_reducible refine c_go ?_ ?_); (· exact rfl); refine ⟨_, fun G => (by (try simp only [fltT, entsT, List.nil_append, List.cons_append]); rfl), ?_⟩); first | refine c_val _ (fun _ => e_load' rfl rfl (by exact rfl)) (fun _ => rfl) rfl (by first | exact fun _ _ _ => rfl | (intro G G' h; simp (decide := true) only [h])) ?_ | (refine c_isField rfl ?_; refine c_val _ (fun _ => e_field rfl rfl) (fun _ => rfl) rfl (by first | exact fun _ _ _ => rfl | (intro G G' h; simp (decide := true) only [h])) ?_) | (refine c_cmp rfl rfl (fun _ => rfl) rfl (fun _ => rfl) (fun _ => rfl) (fun h => ?_) (fun h => ?_) <;> (dsimp only [cmpP] at h; (try (exfalso; omega)))) | refine c_val _ (fun _ => e_index (I := na) rfl rfl rfl (by omega) (by omega)) (fun _ => rfl) rfl (by first | exact fun _ _ _ => rfl | (intro G G' h; simp (decide := true) only [h])) ?_ | refine c_val _ (fun _ => e_index (I := 0) rfl rfl rfl rfl (by omega)) (fun _ => rfl) rfl (by first | exact fun _ _ _ => rfl | (intro G G' h; simp (decide := true) only [h])) ?_ | refine c_val _ (fun _ => e_sub rfl rfl rfl (IntWalk.i64_in _ (by omega))) (fun _ => rfl) rfl (by first | exact fun _ _ _ => rfl | (intro G G' h; simp (decide := true) only [h])) ?_ | refine c_val _ (fun _ => e_len rfl rfl) (fun _ => rfl) rfl (by first | exact fun _ _ _ => rfl | (intro G G' h; simp (decide := true) only [h])) ?_) | (with_reducible refine c_nil ?_)))
    (intro G; simp only [regsT, entsT, Pend.at_none, List.nil_append, List.cons_append])
    (repeat' (first | (with_reducible first | refine u_seq ?_ | refine u_then_n ?_ | refine u_skip ?_) | ((with_reducible refine u_cond_f ?_ ?_); (· exact rfl))))
    (refine u_chain (by kernel_rfl) [[], [false], [true, false], [true, true, true], [false, false, false, false], [true, false, false, false, false], [true, true, true, true, true, true], [true, true, true, true, true, true, true], [true, true, true, true, true, true, true, true], [true, true, true, true, true, true, true, true, true]] (by kernel_rfl) (by kernel_rfl) ?_)
    (repeat' (first | (((with_reducible refine c_go ?_ ?_); (· exact rfl); refine ⟨_, fun G => (by (try simp only [fltT, entsT, List.nil_append, List.cons_append]); rfl), ?_⟩); first | refine c_val _ (fun _ => e_load' rfl rfl (by exact rfl)) (fun _ => rfl) rfl (by first | exact fun _ _ _ => rfl | (intro G G' h; simp (decide := true) only [h])) ?_ | (refine c_isField rfl ?_; refine c_val _ (fun _ => e_field rfl rfl) (fun _ => rfl) rfl (by first | exact fun _ _ _ => rfl | (intro G G' h; simp (decide := true) only [h])) ?_) | refine c_appendNew (enc := encSt) a rfl (fun _ => rfl) rfl (fun _ => rfl) (fun _ => rfl) rfl va (by omega) (by omega) ?_ | refine c_buildSlice rfl (fun _ => rfl) rfl (fun _ => rfl) (by exact rfl) (by exact fun _ => rfl) (by first | exact fun _ _ _ => rfl | (intro G G' h; simp (decide := true) only [h])) ?_) | ((with_reducible refine c_tail ?_ ?_); (· exact rfl))))
    (intro G; simp only [regsT, entsT, Pend.at_none, List.nil_append, List.cons_append])
    (repeat' (first | ((with_reducible refine isOps ?_); first | refine u_assign rfl rfl rfl rfl rfl ?_ | (refine u_append (enc := encSt) m rfl rfl rfl rfl rfl (by (repeat (first | exact Take.here _ _ | apply Take.there))) rfl rfl (src_in hb) (by refine ⟨?_, by decide⟩; (try simp only [List.length_append, List.length_cons, List.length_nil]); omega) (fun A' c' => ?_)) | (refine x_store rfl rfl rfl rfl rfl ?_; refine And.intro rfl (And.intro (by first | decide | exact Nat.le_of_ble_eq_true rfl | (simp; omega)) ⟨_, rfl, ?_⟩)) | (refine x_build rfl rfl rfl rfl rfl ?_; refine ⟨_, rfl, ?_⟩)) | (with_reducible first | refine u_nil ?_ | refine u_then_n ?_ | refine u_ret ?_)))
    exact u_done (by (exact ResL.cons (by exact res1c rfl (by exact rfl)) (ResL.cons (by exact Res1.tmp rfl) ResL.nil))) (A', c') trivial rfl (fun _ h => (h.row_sl (by (repeat (first | exact Take.here _ _ | apply Take.there)))).sub (by (repeat (first | exact Out.nil _ | (refine Out.cons (by (repeat (first | exact Take.here _ _ | apply Take.there))) ?_)))))
end Go.Proofs.Ytekjkaoibcfgfaa
