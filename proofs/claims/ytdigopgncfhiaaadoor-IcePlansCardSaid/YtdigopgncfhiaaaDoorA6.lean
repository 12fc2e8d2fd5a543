/- What the program's types are to the model; comparisons of structs. -/
import Derived.Test.YtdigopgncfhiaaaDoorA1
import Derived.Test.YtdigopgncfhiaaaDoorA5
import Derived.Test.YtdigopgncfhiaaaDoorA2
namespace Go.Proofs.YtdigopgncfhiaaaDoor
set_option linter.unusedVariables false
set_option linter.unusedSimpArgs false
open Go.RowKit
theorem guardSp : Tryd.prog.eqGuardType Tryd.prog.depth 28 = false := by kernel_rfl
theorem guardSt : Tryd.prog.eqGuardType Tryd.prog.depth 114 = false := by kernel_rfl
theorem heldSp : Tryd.prog.stoodInHeld 28 = false := by kernel_rfl
theorem heldSt : Tryd.prog.stoodInHeld 114 = false := by kernel_rfl
theorem eqSp_mk (a b c d : Int) : eqSp ⟨a, b⟩ ⟨c, d⟩ = (a == c && b == d) := by
  unfold eqSp; rw [Bool.eq_iff_iff]; simp
theorem eqSt_mk (i j : Int) (a b c d e f : Sp) (m n p q : Int) : eqSt ⟨i, a, b, c, m, p⟩ ⟨j, d, e, f, n, q⟩ = (i == j && (eqSp a d && (eqSp b e && (eqSp c f && (m == n && p == q))))) := by
  unfold eqSt eqSp; rw [Bool.eq_iff_iff]; simp
@[go_sem] theorem gd_sp (op : BinOp) (x y : Operand) (xs ys : Array Value) (w : World) : (eqGuard op 28 x y (.agg xs) (.agg ys)).run Tryd.prog w = .ok () w := run_eqGuard_agg _ _ _ _ _ _ _ guardSp
@[go_sem] theorem gd_st (op : BinOp) (x y : Operand) (xs ys : Array Value) (w : World) : (eqGuard op 114 x y (.agg xs) (.agg ys)).run Tryd.prog w = .ok () w := run_eqGuard_agg _ _ _ _ _ _ _ guardSt
theorem run_eqIn_sp (d : Nat) (a b a' b' : Int) (w : World) : (Op.equalIn (d + 2) 28 (.agg #[.int .i64 a, .int .i64 b]) (.agg #[.int .i64 a', .int .i64 b'])).run Tryd.prog w = .ok (eqSp ⟨a, b⟩ ⟨a', b'⟩) w := by
  rw [run_equalIn_agg _ _ _ _ _ (by simp [go_sem]) heldSp, eqSp_mk]
  by_cases h1 : a = a' <;> by_cases h2 : b = b' <;> simp [go_sem, h1, h2]
@[go_sem ↓] theorem run_eql_sp (a b a' b' : Int) (w : World) : (binOp .eql 28 (.agg #[.int .i64 a, .int .i64 b]) (.agg #[.int .i64 a', .int .i64 b'])).run Tryd.prog w = .ok (.bool (eqSp ⟨a, b⟩ ⟨a', b'⟩)) w := by
  rw [run_eql_struct, run_eqIn_sp]; rfl
@[go_sem ↓] theorem run_neq_sp (a b a' b' : Int) (w : World) : (binOp .neq 28 (.agg #[.int .i64 a, .int .i64 b]) (.agg #[.int .i64 a', .int .i64 b'])).run Tryd.prog w = .ok (.bool (!eqSp ⟨a, b⟩ ⟨a', b'⟩)) w := by
  rw [run_neq_struct, run_eqIn_sp]; rfl
theorem run_eqIn_st (d : Nat) (s t : St) (w : World) : (Op.equalIn (d + 3) 114 (vSt s) (vSt t)).run Tryd.prog w = .ok (eqSt s t) w := by
  obtain ⟨i, ⟨a1, a2⟩, ⟨b1, b2⟩, ⟨c1, c2⟩, m, p⟩ := s
  obtain ⟨j, ⟨d1, d2⟩, ⟨e1, e2⟩, ⟨f1, f2⟩, n, q⟩ := t
  unfold vSt
  rw [run_equalIn_agg _ _ _ _ _ (by simp [go_sem]) heldSt, eqSt_mk]
  simp [go_sem, run_eqIn_sp]
  generalize eqSp ⟨a1, a2⟩ ⟨d1, d2⟩ = x1
  generalize eqSp ⟨b1, b2⟩ ⟨e1, e2⟩ = x2
  generalize eqSp ⟨c1, c2⟩ ⟨f1, f2⟩ = x3
  by_cases h1 : i = j <;> by_cases h2 : m = n <;> by_cases h3 : p = q <;> cases x1 <;> cases x2 <;> cases x3 <;> simp [h1, h2, h3]
@[go_sem ↓] theorem run_eql_st (i j m n p q a1 a2 b1 b2 c1 c2 d1 d2 e1 e2 f1 f2 : Int) (w : World) : (binOp .eql 114 (.agg #[.int .i64 i, .int .i64 a1, .int .i64 a2, .int .i64 b1, .int .i64 b2, .int .i64 c1, .int .i64 c2, .int .u8 m, .int .i64 p]) (.agg #[.int .i64 j, .int .i64 d1, .int .i64 d2, .int .i64 e1, .int .i64 e2, .int .i64 f1, .int .i64 f2, .int .u8 n, .int .i64 q])).run Tryd.prog w = .ok (.bool (eqSt ⟨i, ⟨a1, a2⟩, ⟨b1, b2⟩, ⟨c1, c2⟩, m, p⟩ ⟨j, ⟨d1, d2⟩, ⟨e1, e2⟩, ⟨f1, f2⟩, n, q⟩)) w := by
  have := run_eqIn_st 9997 ⟨i, ⟨a1, a2⟩, ⟨b1, b2⟩, ⟨c1, c2⟩, m, p⟩ ⟨j, ⟨d1, d2⟩, ⟨e1, e2⟩, ⟨f1, f2⟩, n, q⟩ w
  unfold vSt at this
  rw [run_eql_struct, this]; rfl
@[go_sem ↓] theorem run_neq_st (i j m n p q a1 a2 b1 b2 c1 c2 d1 d2 e1 e2 f1 f2 : Int) (w : World) : (binOp .neq 114 (.agg #[.int .i64 i, .int .i64 a1, .int .i64 a2, .int .i64 b1, .int .i64 b2, .int .i64 c1, .int .i64 c2, .int .u8 m, .int .i64 p]) (.agg #[.int .i64 j, .int .i64 d1, .int .i64 d2, .int .i64 e1, .int .i64 e2, .int .i64 f1, .int .i64 f2, .int .u8 n, .int .i64 q])).run Tryd.prog w = .ok (.bool (!eqSt ⟨i, ⟨a1, a2⟩, ⟨b1, b2⟩, ⟨c1, c2⟩, m, p⟩ ⟨j, ⟨d1, d2⟩, ⟨e1, e2⟩, ⟨f1, f2⟩, n, q⟩)) w := by
  have := run_eqIn_st 9997 ⟨i, ⟨a1, a2⟩, ⟨b1, b2⟩, ⟨c1, c2⟩, m, p⟩ ⟨j, ⟨d1, d2⟩, ⟨e1, e2⟩, ⟨f1, f2⟩, n, q⟩ w
  unfold vSt at this
  rw [run_neq_struct, this]; rfl
/-! ### results that lie in memory -/
theorem load_sp {w : World} {g : Nat} {x y : Value} (hk : Blk w g #[x, y]) : (loadVar 28 ⟨g, 0, none⟩).run Tryd.prog w = .ok (.agg #[x, y]) w := by
  have h0 := hk.cell 0
  have h1 := hk.cell 1
  simp at h0 h1
  simp [go_sem, h0, h1]
theorem results_sp {fn : Func} {t : Tmp} {tmps : Array Value} {w : World} {g : Nat} {x y : Value} (hr : fn.results = #[.cell t 28]) (hp : tmps.getD t undef = .pointer (some ⟨g, 0, none⟩)) (hk : Blk w g #[x, y]) :
    (results fn tmps).run Tryd.prog w = .ok (.agg #[x, y]) w := by
  simp [results, hr, -Array.getD_eq_getD_getElem?, hp, asAddr, load_sp hk]
theorem results_sp2 {fn : Func} {t u : Tmp} {tmps : Array Value} {w : World} {g g' : Nat} {x y x' y' : Value} (hr : fn.results = #[.cell t 28, .cell u 28]) (hp : tmps.getD t undef = .pointer (some ⟨g, 0, none⟩)) (hk : Blk w g #[x, y]) (hp' : tmps.getD u undef = .pointer (some ⟨g', 0, none⟩)) (hk' : Blk w g' #[x', y']) :
    (results fn tmps).run Tryd.prog w = .ok (.tuple #[.agg #[x, y], .agg #[x', y']]) w := by
  simp [results, hr, -Array.getD_eq_getD_getElem?, hp, hp', asAddr, load_sp hk, load_sp hk']
end Go.Proofs.YtdigopgncfhiaaaDoor
/- The small functions: in, known, within, span, Great, Twin. -/
namespace Go.Proofs.YtdigopgncfhiaaaDoor
set_option linter.unusedVariables false
set_option linter.unusedSimpArgs false
open Go.RowKit
/-- in's closure: is a number outside? -/
theorem in_fn (n lo hi : Int) (a b : Addr) (w : World) (ha : w.cell? a = some (.int .i64 lo)) (hb : w.cell? b = some (.int .i64 hi)) :
    Gives 123 #[.int .i64 n, .pointer (some a), .pointer (some b)] w (.bool (!inB lo hi n)) := by
  unfold Gives
  by_cases h : n < lo
  · go_enter Tryd.func123, Tryd.ntmps123
    go_wp2
    go_ret
    exact ⟨ret_of (congrArg Value.bool (by rw [Bool.eq_iff_iff]; simp [inB]; omega)), Below.refl _ _⟩
  · go_enter Tryd.func123, Tryd.ntmps123
    go_wp2
    go_ret
    exact ⟨ret_of (congrArg Value.bool (by rw [Bool.eq_iff_iff]; simp [inB]; omega)), Below.refl _ _⟩
def findI {α : Type} (p : α → Bool) (l : List α) : Int := match l.findIdx? p with | some i => i | none => -1
theorem findI_neg {α : Type} (p : α → Bool) (l : List α) : decide (0 ≤ findI p l) = l.any p := by
  unfold findI
  rw [Bool.eq_iff_iff]
  cases h : l.findIdx? p with
  | none => simp [List.findIdx?_eq_none_iff] at h; simp; exact h
  | some i =>
    simp
    have := List.findIdx?_eq_some_iff_getElem.1 h
    obtain ⟨hi, hp, _⟩ := this
    exact ⟨l[i], List.getElem_mem hi, hp⟩
set_option maxHeartbeats 1000000 in
theorem index_func (l : List Int) (cap : Nat) (A : Option Addr) (k : FuncId) (c1 c2 : Value) (p : Int → Bool) (w : World)
   (hl : l.length ≤ 1000000) (hk : SlAt encI 1 w A l)
   (hb : ∀ args w, (callFunc k args).run Tryd.prog w = .ok (.enter k args) w)
   (hp : ∀ x W, Below w.heap.size w W → Gives k #[.int .i64 x, c1, c2] W (.bool (p x))) :
    Gives 90 #[.slice A l.length cap, .func (.func k) #[] #[c1, c2]] w (.int .i64 (findI p l)) := by
  unfold Gives
  have HP := Lib.hid hp
  clear hp
  have HK := Lib.hid hk
  clear hk
  go_enter Tryd.func90, Tryd.ntmps90
  go_wp2
  go_loopw [8] (fun v wr => ∃ i : Nat, i ≤ l.length ∧ v = .int .i64 i ∧ Below w.heap.size w wr ∧ Hid (l.findIdx? p = ((l.drop i).findIdx? p).map (· + i))) (fun v _ => l.length - (intOf v).toNat)
  case atStart => exact ⟨0, Nat.zero_le _, rfl, Below.refl _ _, by unfold Hid; simp⟩
  case round =>
    obtain ⟨i, hi, rfl, hB, hF⟩ := hrel
    by_cases hlt : i < l.length
    · obtain ⟨b, o, rfl, hblt, hc⟩ := (HK.out.below hB).at_ hlt
      have hc' := hc 0 _ rfl
      simp only [Nat.add_zero, Nat.mul_one] at hc'
      clear hc
      go_wp2_with fail
      refine (HP.out _ _ hB).mono ?_
      rintro e w1 ⟨rfl, hb1⟩
      have hB1 : Below w.heap.size w w1 := hB.trans (hb1.mono hB.size)
      clear hc'
      by_cases hpp : p l[i] = true
      · rw [hpp]
        go_wp2
        go_ret
        refine ⟨ret_of ?_, hB1⟩
        unfold findI
        rw [hF.out, List.drop_eq_getElem_cons hlt, List.findIdx?_cons, hpp]
        simp
      · have hpp' : p l[i] = false := by simpa using hpp
        rw [hpp']
        go_wp2
        go_roundw
        case rel =>
          refine ⟨i + 1, by omega, by go_num, hB1, ?_⟩
          unfold Hid
          rw [hF.out, List.drop_eq_getElem_cons hlt, List.findIdx?_cons, hpp']
          simp [Function.comp_def, Nat.add_assoc, Nat.add_comm 1]
        case measure => simp [intOf]; omega
    · go_wp2
      go_ret
      refine ⟨ret_of ?_, hB⟩
      unfold findI
      rw [hF.out, List.drop_eq_nil_of_le (by omega)]
      simp
set_option maxHeartbeats 1000000 in
theorem contains_func (l : List Int) (cap : Nat) (A : Option Addr) (k : FuncId) (c1 c2 : Value) (p : Int → Bool) (w : World)
   (hl : l.length ≤ 1000000) (hk : SlAt encI 1 w A l)
   (hb : ∀ args w, (callFunc k args).run Tryd.prog w = .ok (.enter k args) w)
   (hp : ∀ x W, Below w.heap.size w W → Gives k #[.int .i64 x, c1, c2] W (.bool (p x))) :
    Gives 105 #[.slice A l.length cap, .func (.func k) #[] #[c1, c2]] w (.bool (l.any p)) := by
  unfold Gives
  have HI := Lib.hid (index_func l cap A k c1 c2 p w hl hk hb hp)
  clear hp hb hk
  go_enter Tryd.func105, Tryd.ntmps105
  go_wp2_with fail
  refine HI.out.mono ?_
  rintro e w1 ⟨rfl, hb1⟩
  go_wp2
  go_ret
  exact ⟨ret_of (by simp [findI_neg]), hb1⟩
theorem any_out (lo hi : Int) (l : List Int) : (!(l.any fun n => !inB lo hi n)) = l.all (inB lo hi) := by
  induction l with
  | nil => rfl
  | cons a l ih => simp [← ih]
set_option maxHeartbeats 1000000 in
theorem in_all (lo hi : Int) (l : List Int) (cap : Nat) (A : Option Addr) (w : World) (hl : l.length ≤ 1000000) (hk : SlAt encI 1 w A l) :
    Gives 99 #[.int .i64 lo, .int .i64 hi, .slice A l.length cap] w (.bool (l.all (inB lo hi))) := by
  unfold Gives
  have HK := Lib.hid hk
  clear hk
  go_enter Tryd.func99, Tryd.ntmps99
  go_wp2_with fail
  refine (contains_func l cap A 123 _ _ (fun n => !inB lo hi n) _ hl ((HK.out.alloc _).alloc _) (enters Tryd.func123 (by kernel_rfl) rfl) ?_).mono ?_
  · intro x W hW
    refine in_fn x lo hi _ _ W ?_ ?_
    · rw [hW.cell (by simp <;> omega)]; simp
    · rw [hW.cell (by simp <;> omega)]; simp
  · rintro e w1 ⟨rfl, hb1⟩
    go_wp2
    go_ret
    exact ⟨ret_of (by first | rfl | simp [any_out]), ((below_alloc w _).trans ((below_alloc _ _).mono (by simp))).trans (hb1.mono (by simp <;> omega))⟩
theorem slAt_new1 (w : World) (t : TypeId) (x : Int) : SlAt encI 1 (w.alloc (.cells #[.int .i64 x] t)) (some ⟨w.heap.size, 0, none⟩) [x] := by
  intro i y hy
  rcases i with _ | i
  · simp at hy; subst hy
    refine ⟨_, _, rfl, by simp, fun j v hv => ?_⟩
    rcases j with _ | j
    · simp [encI] at hv; subst hv; simp
    · simp [encI] at hv
  · simp at hy
theorem slAt_new2 (w : World) (t : TypeId) (x y : Int) : SlAt encI 1 (w.alloc (.cells #[.int .i64 x, .int .i64 y] t)) (some ⟨w.heap.size, 0, none⟩) [x, y] := by
  intro i z hz
  refine ⟨_, _, rfl, by simp, fun j v hv => ?_⟩
  rcases j with _ | j
  · rcases i with _ | _ | i
    · simp at hz; subst hz; simp [encI] at hv; subst hv; simp
    · simp at hz; subst hz; simp [encI] at hv; subst hv; simp
    · simp at hz
  · simp [encI] at hv
/-- in of one number, in new memory -/
theorem in_one (lo hi x : Int) (c : Nat) (t : TypeId) (b : Nat) (w : World) (hb : b = w.heap.size) :
    Gives 99 #[.int .i64 lo, .int .i64 hi, .slice (some ⟨b, 0, none⟩) 1 c] (w.alloc (.cells #[.int .i64 x] t)) (.bool (inB lo hi x)) := by
  subst hb
  exact (in_all lo hi [x] c _ _ (by simp) (slAt_new1 w t x)).of (by simp)
theorem in_two (lo hi x y : Int) (c : Nat) (t : TypeId) (b : Nat) (w : World) (hb : b = w.heap.size) :
    Gives 99 #[.int .i64 lo, .int .i64 hi, .slice (some ⟨b, 0, none⟩) 2 c] (w.alloc (.cells #[.int .i64 x, .int .i64 y] t)) (.bool (inB lo hi x && inB lo hi y)) := by
  subst hb
  exact (in_all lo hi [x, y] c _ _ (by simp) (slAt_new2 w t x y)).of (by simp)
set_option maxHeartbeats 1000000 in
theorem known_any (s : Sp) (lo hi : Int) (w : World) : Gives 114 #[vSp s, .int .i64 lo, .int .i64 hi] w (.bool (knownB s lo hi)) := by
  unfold Gives vSp
  cases h1 : inB lo hi s.lo && inB lo hi s.hi
  all_goals
    have H1 := Lib.hid h1
    clear h1
    go_enter Tryd.func114, Tryd.ntmps114
    go_wp2_with fail
    refine (in_two lo hi s.lo s.hi _ _ _ _ (by simp)).mono ?_
    rintro e w1 ⟨rfl, hb1⟩
    rw [H1.out]
    obtain ⟨hc, hf⟩ := bcell hb1
    go_wp2
    go_ret
    refine ⟨ret_of (congrArg Value.bool ?_), ((below_alloc w _).trans ((below_alloc _ _).mono (by simp))).trans (hb1.mono (by simp <;> omega))⟩
    unfold knownB
    rw [H1.out]
    simp
theorem within_any (n lo hi : Int) (w : World) : Gives 103 #[.int .i64 n, .int .i64 lo, .int .i64 hi] w (.bool (inB lo hi n)) := by
  unfold Gives
  by_cases h : lo ≤ n
  · go_enter Tryd.func103, Tryd.ntmps103
    go_wp2
    go_ret
    exact ⟨ret_of (congrArg Value.bool (by rw [Bool.eq_iff_iff]; simp [inB, h])), Below.refl _ _⟩
  · go_enter Tryd.func103, Tryd.ntmps103
    go_wp2
    go_ret
    exact ⟨ret_of (congrArg Value.bool (by rw [Bool.eq_iff_iff]; simp [inB]; omega)), Below.refl _ _⟩
set_option maxHeartbeats 1000000 in
theorem span_any (s : Sp) (lo hi : Int) (w : World) : Gives 124 #[vSp s, .int .i64 lo, .int .i64 hi] w (.bool (knownB s lo hi)) := by
  unfold Gives vSp
  cases h1 : inB lo s.hi s.lo
  all_goals
    have H1 := Lib.hid h1
    clear h1
    go_enter Tryd.func124, Tryd.ntmps124
    go_wp2_with fail
    refine (within_any s.lo lo s.hi _).mono ?_
    rintro e w1 ⟨rfl, hb1⟩
    rw [H1.out]
    obtain ⟨hc, hf⟩ := bcell hb1
    go_wp2
    go_ret
    refine ⟨ret_of (congrArg Value.bool ?_), (below_alloc w _).trans (hb1.mono (by simp <;> omega))⟩
    have h := H1.out
    simp only [inB, decide_eq_true_eq, decide_eq_false_iff_not] at h
    rw [Bool.eq_iff_iff]; simp [knownB, inB]; omega
/-- A track as it goes from call to call. -/
def vT (A : Option Addr) (n c : Nat) : Value := .agg #[.slice A n c]
theorem great_any (A : Option Addr) (n c : Nat) (w : World) : Gives 35 #[vT A n c] w (.bool (decide (20 < n))) := by
  unfold Gives vT
  go_enter Tryd.func35, Tryd.ntmps35
  go_wp2
  go_ret
  exact ⟨ret_of (congrArg Value.bool (by rw [Bool.eq_iff_iff]; simp <;> omega)), below_alloc w _⟩
end Go.Proofs.YtdigopgncfhiaaaDoor
/- Small functions of the laws: span, inside. -/
namespace Go.Proofs.YtdigopgncfhiaaaDoor
set_option linter.unusedVariables false
set_option linter.unusedSimpArgs false
open Go.RowKit
set_option maxRecDepth 20000
theorem in1 (lo hi a : Int) (c : Nat) (A : Option Addr) (w : World) (hk : SlAt encI 1 w A [a]) : Gv Tryd.prog 99 [.int .i64 lo, .int .i64 hi, .slice A 1 c] w (.bool (inB lo hi a)) :=
  ((in_all lo hi [a] c A w (by simp) hk).of (by simp)).gv
instance : EncI encI 1 := ⟨fun _ => rfl, fun _ => one_i⟩
end Go.Proofs.YtdigopgncfhiaaaDoor
/- sum. -/
namespace Go.Proofs.YtdigopgncfhiaaaDoor
set_option linter.unusedVariables false
set_option linter.unusedSimpArgs false
open Go.RowKit
set_option maxRecDepth 20000
instance : EncI encSt 9 := ⟨fun _ => rfl, one_st⟩
instance : EncI encMe 5 := ⟨fun _ => rfl, one_me⟩
instance : ElI Tryd.prog 33 3 1 8 := ⟨⟨_, elem_i⟩⟩
instance : ElI Tryd.prog 170 28 2 16 := ⟨⟨_, elem_sp⟩⟩
instance : EncI encSp 2 := ⟨fun _ => rfl, fun _ => one_sp⟩
end Go.Proofs.YtdigopgncfhiaaaDoor
/- pick, of whatever elements. -/
namespace Go.Proofs.YtdigopgncfhiaaaDoor
set_option linter.unusedVariables false
open Go.RowKit
set_option maxRecDepth 20000
set_option linter.unusedSimpArgs false
set_option maxHeartbeats 2000000 in
theorem pickSp (l : List Sp) (A : Option Addr) (cap : Nat) (kf : FuncId) [CallI Tryd.prog kf] (cs : Array Value) (p : Nat → Sp → Bool) (w : World) (hk : SlAt encSp 2 w A l) (hl : l.length ≤ 100000)
    (hp : ∀ (i : Nat) x W, l[i]? = some x → Below w.heap.size w W → Gv Tryd.prog kf ([.int .i64 (i : Int), vSp x] ++ cs.toList) W (.bool (p i x))) :
    NewSl encI 1 (picks p l) (fun v => v) Tryd.prog 100 [.slice A l.length cap, .func (.func kf) #[] cs] w := by
  unfold NewSl
  (refine ret_enter (n := 25) Tryd.func100 rfl rfl rfl ?_)
  (repeat' (first | ((with_reducible refine isOps ?_); first | refine u_move rfl rfl rfl rfl rfl ?_ | refine u_assign rfl rfl rfl rfl rfl ?_ | refine u_len rfl rfl rfl rfl rfl ?_) | (with_reducible first | refine u_seq ?_ | refine u_region ?_ | refine u_nil ?_ | refine u_then_n ?_ | refine u_block ?_)))
  refine u_row_nil encI 1 3 ?_
  refine u_loop (ι := Nat × Value) (fun i => i.1 ≤ l.length) (fun i => [(1, .func (.func kf) #[] cs), (5, i.2), (8, .slice A l.length cap), (9, .int .i64 (l.length : Int)), (10, .int .i64 (i.1 : Int))]) (fun i => [.row encI 1 3 i.2 (picksTo p l i.1)]) (fun i => l.length - i.1) (0, .slice none 0 0) (Nat.zero_le _) (by (first | exact fun _ _ h => lk_nil h | (repeat (first | exact (fun _ _ h => lk_nil h) | (refine lk_sub rfl ?_))))) (by (repeat (first | exact Out.nil _ | (refine Out.cons (by (repeat (first | exact Take.here _ _ | apply Take.there))) ?_)))) ?_
  rintro ⟨i, v⟩ hi
  simp only at hi ⊢
  have hpl := picksTo_len p l i
  by_cases hlt : i < l.length
  · have hx : l[i]? = some l[i] := by simp [hlt]
    obtain ⟨b, o, rfl, hblt, hc⟩ := hk.at_ hlt
    have : InS w b o encSp 2 l := ⟨hk⟩
    have : GetI l i l[i] := ⟨hx⟩
    have hso : soAt p l i = p i l[i] := by simp [soAt, hlt]
    (repeat' (first | ((with_reducible refine isOps ?_); first | refine u_move rfl rfl rfl rfl rfl ?_ | refine u_assign rfl rfl rfl rfl rfl ?_ | (refine x_load rfl rfl rfl rfl rfl ?_; refine ⟨_, rfl, ?_⟩) | (refine u_cmp rfl rfl rfl rfl rfl rfl rfl (fun h => ?_) (fun h => ?_) <;> (dsimp only [cmpP] at h; (try (exfalso; omega)))) | (refine u_givesB rfl rfl rfl rfl rfl rfl (fun _ _ q => hp i _ _ hx q.below) (fun h => ?_) (fun h => ?_) <;> (try (exfalso; omega))) | (refine u_append (enc := encI) [_] rfl rfl rfl rfl rfl (by (repeat (first | exact Take.here _ _ | apply Take.there))) rfl rfl (src_one (by exact rfl)) (by refine ⟨?_, by decide⟩; (try simp only [List.length_append, List.length_cons, List.length_nil]); omega) (fun A' c' => ?_)) | refine u_add1 rfl rfl rfl rfl rfl rfl (by omega) ?_ | refine u_index rfl rfl rfl rfl rfl rfl rfl (by omega) ?_ | (refine x_store rfl rfl rfl rfl rfl ?_; refine And.intro rfl (And.intro (by first | decide | exact Nat.le_of_ble_eq_true rfl | (simp; omega)) ⟨_, rfl, ?_⟩)) | (refine u_alloc rfl rfl rfl rfl (fun b => ?_)) | (refine x_buildSlice rfl rfl rfl rfl rfl ?_; refine ⟨rfl, _, rfl, fun b => ?_⟩)) | (with_reducible first | refine u_seq ?_ | refine u_region ?_ | refine u_nil ?_ | refine u_then_n ?_ | refine u_skip ?_ | refine u_block ?_ | refine u_in_n ?_) | ((with_reducible refine u_cond_t ?_ ?_); (· exact rfl)) | ((with_reducible refine u_cond_f ?_ ?_); (· exact rfl))))
    · refine u_again (i + 1, .slice A' (picksTo p l i ++ [(i : Int)]).length c') (by simp only; omega) (by simp only; omega) (by (first | exact fun _ _ h => lk_nil h | (repeat (first | exact (fun _ _ h => lk_nil h) | (refine lk_sub rfl ?_))))) ?_
      rw [picksTo_yes (hso.trans h)]
      (repeat (first | exact Out.nil _ | (refine Out.cons (by (repeat (first | exact Take.here _ _ | apply Take.there))) ?_)))
    · refine u_again (i + 1, v) (by simp only; omega) (by simp only; omega) (by (first | exact fun _ _ h => lk_nil h | (repeat (first | exact (fun _ _ h => lk_nil h) | (refine lk_sub rfl ?_))))) ?_
      rw [picksTo_no (hso.trans h)]
      (repeat (first | exact Out.nil _ | (refine Out.cons (by (repeat (first | exact Take.here _ _ | apply Take.there))) ?_)))
  · obtain rfl : i = l.length := by omega
    (repeat' (first | ((with_reducible refine isOps ?_); first | refine u_move rfl rfl rfl rfl rfl ?_ | refine u_assign rfl rfl rfl rfl rfl ?_ | (refine u_cmp rfl rfl rfl rfl rfl rfl rfl (fun h => ?_) (fun h => ?_) <;> (dsimp only [cmpP] at h; (try (exfalso; omega))))) | (with_reducible first | refine u_seq ?_ | refine u_region ?_ | refine u_nil ?_ | refine u_then_n ?_ | refine u_ret ?_ | refine u_exit ?_ | refine u_in_same ?_ | refine u_then_e ?_) | ((with_reducible refine u_cond_f ?_ ?_); (· exact rfl))))
    refine u_row_form (enc := encI) (by (repeat (first | exact Take.here _ _ | apply Take.there))) ?_
    rintro A' c' rfl
    exact u_done (by (exact ResL.cons (by exact Res1.tmp rfl) ResL.nil)) (A', c') trivial rfl (fun _ h => (h.row_sl (by (repeat (first | exact Take.here _ _ | apply Take.there)))).sub (by (repeat (first | exact Out.nil _ | (refine Out.cons (by (repeat (first | exact Take.here _ _ | apply Take.there))) ?_)))))
end Go.Proofs.YtdigopgncfhiaaaDoor
/- Track and Check of the reference: a track is valid. -/
namespace Go.Proofs.YtdigopgncfhiaaaDoor
set_option linter.unusedVariables false
open Go.RowKit
set_option linter.unusedSimpArgs false
set_option maxHeartbeats 8000000 in
theorem track_any (t : List St) (A : Option Addr) (cap : Nat) (w : World) (ht : SlAt encSt 9 w A t) (hf : FitT t) (hl : t.length ≤ 1000000) :
    Gives 102 #[vT A t.length cap] w (.bool (valid t)) := by
  unfold Gives vT
  have HT := Lib.hid ht
  clear ht
  cases h1 : inB 1 12 t.length
  · have H1 := Lib.hid h1
    clear h1
    go_enter Tryd.func102, Tryd.ntmps102
    go_wp2_with fail
    refine (within_any _ _ _ _).mono ?_
    rintro e w1 ⟨rfl, hb1⟩
    rw [H1.out]
    go_wp2
    go_ret
    exact ⟨ret_of (by simp [valid, H1.out]), below_step (below_alloc w _) hb1⟩
  · have H1 := Lib.hid h1
    clear h1
    go_enter Tryd.func102, Tryd.ntmps102
    go_wp2_with fail
    refine (within_any _ _ _ _).mono ?_
    rintro e w1 ⟨rfl, hb1⟩
    rw [H1.out]
    have hB1 : Below w.heap.size w w1 := below_step (below_alloc w _) hb1
    have kt := (Blk.new w _ _).past hb1
    clear hb1
    go_wp2
    go_loopw [3] (fun v3 wr => ∃ (i : Nat) (last : Int), i ≤ t.length ∧ -1 ≤ last ∧ last ≤ 9999 ∧ v3 = .int .i64 i ∧ Blk wr w.heap.size #[.slice A t.length cap] ∧ Below w.heap.size w wr ∧ Hid (okFrom (-1) t = okFrom last (t.drop i)) ∧ Hid (last = if i = 0 then -1 else (t.getD (i - 1) default).id)) (fun v _ => t.length - (intOf v).toNat)
    case atStart => exact ⟨0, -1, Nat.zero_le _, by omega, by omega, rfl, kt, hB1, by unfold Hid; simp, by unfold Hid; simp⟩
    case round =>
      obtain ⟨i, last, hi, hl0, hl1, rfl, hK, hB, hF, hL⟩ := hrel
      clear kt hB1
      obtain ⟨tc, tf, tl⟩ := hK.facts
      by_cases hlt : i < t.length
      · obtain ⟨b, o, rfl, hblt, hc⟩ := (HT.out.below hB).at_ hlt
        have hF' : okFrom (-1) t = (stOk last t[i] && okFrom t[i].id (t.drop (i + 1))) := by
          rw [hF.out, List.drop_eq_getElem_cons hlt]; rfl
        have HF := Lib.hid hF'
        clear hF' hF
        obtain ⟨hs0, hs1⟩ := hf t[i] (List.getElem_mem hlt)
        have hLn : t[i].id = (t.getD (i + 1 - 1) default).id := by simp [List.getElem?_eq_getElem hlt]
        have HLn := Lib.hid hLn
        clear hLn
        have hp : 0 < i → wr.cell? ⟨b, o + (i - 1) * 9, none⟩ = some (.int .i64 last) := by
          intro h0
          obtain ⟨b', o', hA, hb', hc'⟩ := (HT.out.below hB).at_ (i := i - 1) (by omega)
          cases hA
          have := hc' 0 _ rfl
          rw [hL.out, if_neg (by omega)]
          simpa [List.getElem?_eq_getElem (show i - 1 < t.length by omega)] using this
        generalize t[i] = s at hc HF hs0 hs1 HLn
        obtain ⟨id, ⟨la, lb⟩, ⟨fa, fb⟩, ⟨ra, rb⟩, sd, wl⟩ := s
        simp only at hs0 hs1
        have c0 := hc 0 _ rfl
        have c1 := hc 1 _ rfl
        have c2 := hc 2 _ rfl
        have c3 := hc 3 _ rfl
        have c4 := hc 4 _ rfl
        have c5 := hc 5 _ rfl
        have c6 := hc 6 _ rfl
        have c7 := hc 7 _ rfl
        have c8 := hc 8 _ rfl
        simp only [Nat.add_zero] at c0
        clear hc
        have hi0 : (0:Int) ≤ i := by omega
        have hi1 : (i:Int) < t.length := by omega
        have hgt : (0 < i → (i : Int) > 0) ∧ (¬ 0 < i → ¬ (i : Int) > 0) := by omega
        have hl3 : ¬ 0 < i → last = -1 := by intro h; rw [hL.out, if_pos (by omega)]
        by_cases hz : 0 < i
        all_goals
          have hc9 := hp
          simp only [hz, forall_const, not_true, not_false_iff, false_implies, true_implies] at hc9 hgt hl3
          go_wp2_with fail
          refine wp_region_grow (by kernel_rfl) (by kernel_rfl) ?_
          repeat (any_goals (first
            | go_big_quiet_step ((first | (go_at_call 103; exact grow_call (within_any _ _ _ _)) | (go_at_call 124; exact grow_call (span_any ⟨_, _⟩ _ _ _))))
            | quiet_step ((first | (go_at_call 103; exact grow_call (within_any _ _ _ _)) | (go_at_call 124; exact grow_call (span_any ⟨_, _⟩ _ _ _))))
            | (refine wpQuiet_step (fun K hK => ?_); go_simp; split <;> (refine hK _ ?_; clear hK K))))
          all_goals
            refine grow_nil (fun w2 hg => ?_)
            have hB2 := below_step (bx_alloc hB _) hg
            have kb := (Blk.new _ _ _).past hg
            obtain ⟨kc, kf, kl⟩ := kb.facts
            have hK2 := (hK.alloc (.cells #[.int .i64 id, .int .i64 la, .int .i64 lb, .int .i64 fa, .int .i64 fb, .int .i64 ra, .int .i64 rb, .int .u8 sd, .int .i64 wl] 114)).past hg
            obtain ⟨qc, qf, ql⟩ := hK2.facts
            clear hg
            go_wp2_with (go_at_call 124; refine (span_any ⟨_, _⟩ _ _ _).mono ?_; rintro e wn ⟨rfl, hbn⟩; replace hB2 := below_step hB2 hbn; replace kb := kb.past hbn; replace hK2 := hK2.past hbn; obtain ⟨kc, kf, kl⟩ := kb.facts; obtain ⟨qc, qf, ql⟩ := hK2.facts; clear hbn)
        all_goals
          have hOk := HF.out
          have hId := HLn.out
          clear HF HLn
          first
          | (go_ret
             refine ⟨ret_of ?_, hB2⟩
             go_light
             have e : stOk last ⟨id, ⟨la, lb⟩, ⟨fa, fb⟩, ⟨ra, rb⟩, sd, wl⟩ = false := by
               rw [Bool.eq_false_iff]
               intro hst
               simp only [stOk, Bool.and_eq_true, Bool.or_eq_true, inB_iff, inB_no, knownB_iff, knownB_no, eqSp_iff, decide_eq_true_eq, Bool.not_eq_true', Bool.not_eq_false', Bool.not_eq_true, beq_iff_eq, beq_eq_false_iff_ne, bne_iff_ne, bne_eq_false_iff_eq, ne_eq] at *
               omega
             simp [valid, hOk, e])
          | (go_light
             have e : stOk last ⟨id, ⟨la, lb⟩, ⟨fa, fb⟩, ⟨ra, rb⟩, sd, wl⟩ = true ∧ id ≤ 9999 ∧ -1 ≤ id := by
               simp only [stOk, Bool.and_eq_true, Bool.or_eq_true, inB_iff, inB_no, knownB_iff, knownB_no, eqSp_iff, decide_eq_true_eq, Bool.not_eq_true', Bool.not_eq_false', Bool.not_eq_true, beq_iff_eq, beq_eq_false_iff_ne, bne_iff_ne, bne_eq_false_iff_eq, ne_eq] at *
               omega
             refine ⟨⟨i + 1, id, by omega, by omega, by omega, by go_num, hK2, hB2, ?_, ?_⟩, by simp [intOf]; omega⟩
             · unfold Hid; simp [hOk, e.1]
             · unfold Hid; simpa using hId)
      · go_wp2
        go_ret
        refine ⟨ret_of ?_, hB⟩
        simp [valid, H1.out, hF.out, List.drop_eq_nil_of_le (Nat.le_of_not_lt hlt), okFrom]
theorem rcheck_any (t : List St) (A : Option Addr) (cap : Nat) (w : World) (ht : SlAt encSt 9 w A t) (hf : FitT t) (hl : t.length ≤ 1000000) :
    Gives 82 #[vT A t.length cap] w (.int .i64 (if valid t then 0 else 10)) := by
  unfold Gives vT
  have H := Lib.hid (track_any t A cap (w.alloc (.cells #[.slice A t.length cap] 24)) (ht.alloc _) hf hl)
  clear ht
  cases h : valid t
  all_goals
    have hv := Lib.hid h
    clear h
    go_enter Tryd.func82, Tryd.ntmps82
    go_wp2_with fail
    refine H.out.mono ?_
    rintro e w1 ⟨rfl, hb1⟩
    rw [hv.out]
    go_wp2
    go_ret
    exact ⟨ret_of (by simp), below_step (below_alloc w _) hb1⟩
end Go.Proofs.YtdigopgncfhiaaaDoor
/- Check of the program, Track and Check of the reference. -/
namespace Go.Proofs.YtdigopgncfhiaaaDoor
set_option linter.unusedVariables false
open Go.RowKit
set_option linter.unusedSimpArgs false
set_option maxHeartbeats 4000000 in
theorem check_any (t : List St) (A : Option Addr) (cap : Nat) (w : World) (ht : SlAt encSt 9 w A t) (hf : FitT t) (hl : t.length ≤ 1000000) :
    Gives 77 #[vT A t.length cap] w (.int .i64 (if valid t then 0 else 10)) := by
  unfold Gives vT
  have HT := Lib.hid ht
  clear ht
  cases h1 : inB 1 12 t.length
  · have H1 := Lib.hid h1
    clear h1
    go_enter Tryd.func77, Tryd.ntmps77
    go_wp2
    go_step3
    go_wp2_with fail
    refine (in_one 1 12 t.length _ _ _ _ (by simp)).mono ?_
    rintro e w1 ⟨rfl, hb1⟩
    rw [H1.out]
    go_wp2
    rw [Exit.noGoto_ret]
    go_ret
    refine ⟨ret_of (by simp [valid, H1.out]), ?_⟩
    exact (below_alloc w _).trans (((below_alloc _ _).trans (hb1.mono (by simp <;> omega))).mono (by simp))
  · have H1 := Lib.hid h1
    clear h1
    go_enter Tryd.func77, Tryd.ntmps77
    go_wp2
    go_step3
    go_wp2_with fail
    refine (in_one 1 12 t.length _ _ _ _ (by simp)).mono ?_
    rintro e w1 ⟨rfl, hb1⟩
    rw [H1.out]
    have hB1 : Below w.heap.size w w1 := (below_alloc w _).trans (((below_alloc _ _).trans (hb1.mono (by simp <;> omega))).mono (by simp))
    have hcell : w1.cell? ⟨w.heap.size, 0, none⟩ = some (.slice A t.length cap) := by rw [hb1.cell (by simp <;> omega)]; simp
    clear hb1
    go_wp2
    go_step3
    go_wp2
    go_loopw [3, 4, 18] (fun v3 v4 v18 wr => ∃ (i : Nat) (last : Int), i ≤ t.length ∧ -1 ≤ last ∧ last ≤ 9999 ∧ v18 = .int .i64 i ∧ v3 = .int .i64 last ∧ v4 = .int .i64 0 ∧ Below w.heap.size w wr ∧ Hid (okFrom (-1) t = okFrom last (t.drop i))) (fun _ _ v _ => t.length - (intOf v).toNat)
    case atStart => exact ⟨0, -1, Nat.zero_le _, by omega, by omega, rfl, rfl, rfl, hB1, by unfold Hid; simp⟩
    case round =>
      obtain ⟨i, last, hi, hl0, hl1, rfl, rfl, rfl, hB, hF⟩ := hrel
      clear hcell hB1
      by_cases hlt : i < t.length
      · obtain ⟨b, o, rfl, hblt, hc⟩ := (HT.out.below hB).at_ hlt
        have hF' : okFrom (-1) t = (stOk last t[i] && okFrom t[i].id (t.drop (i + 1))) := by
          rw [hF.out, List.drop_eq_getElem_cons hlt]; rfl
        have HF := Lib.hid hF'
        clear hF' hF
        obtain ⟨hs0, hs1⟩ := hf t[i] (List.getElem_mem hlt)
        generalize t[i] = s at hc HF hs0 hs1
        obtain ⟨id, ⟨la, lb⟩, ⟨fa, fb⟩, ⟨ra, rb⟩, sd, wl⟩ := s
        simp only at hs0 hs1
        have c0 := hc 0 _ rfl
        have c1 := hc 1 _ rfl
        have c2 := hc 2 _ rfl
        have c3 := hc 3 _ rfl
        have c4 := hc 4 _ rfl
        have c5 := hc 5 _ rfl
        have c6 := hc 6 _ rfl
        have c7 := hc 7 _ rfl
        have c8 := hc 8 _ rfl
        simp only [Nat.add_zero] at c0
        clear hc
        have hi0 : (0:Int) ≤ i := by omega
        have hi1 : (i:Int) < t.length := by omega
        go_wp2_with (first
          | (go_at_call 99; refine (in_one _ _ _ _ _ _ _ (by simp)).mono ?_; rintro e wn ⟨rfl, hbn⟩; (first | (replace hB := below_step (bx_alloc hB _) hbn; replace kb := (kb.alloc _).past hbn) | (replace hB := below_step (bx_alloc (bx_alloc hB _) _) hbn; have kb := ((Blk.new _ _ _).alloc _).past hbn)); obtain ⟨kc, kf, kl⟩ := kb.facts; clear hbn)
          | (go_at_call 114; refine (known_any ⟨_, _⟩ _ _ _).mono ?_; rintro e wn ⟨rfl, hbn⟩; replace hB := below_step hB hbn; replace kb := kb.past hbn; obtain ⟨kc, kf, kl⟩ := kb.facts; clear hbn))
        all_goals first
          | (rw [Exit.noGoto_ret]
             go_ret
             refine ⟨ret_of ?_, hB⟩
             go_light
             try simp only [Bool.not_eq_true', Bool.not_eq_false'] at *
             have e : okFrom (-1) t = false := by rw [HF.out]; simp [stOk, *]
             simp [valid, e])
          | (go_light
             try simp only [Bool.not_eq_true', Bool.not_eq_false'] at *
             have h := ‹inB (last + 1) 9999 id = true›
             rw [inB_iff] at h
             refine ⟨⟨i + 1, id, by omega, by omega, by omega, by go_num, by first | rfl | trivial, by first | rfl | trivial, hB, ?_⟩, by simp [intOf]; omega⟩
             unfold Hid
             rw [HF.out]
             simp [stOk, *])
      · go_wp2
        rw [Exit.noGoto_ret]
        go_ret
        refine ⟨ret_of ?_, hB⟩
        simp [valid, H1.out, hF.out, List.drop_eq_nil_of_le (Nat.le_of_not_lt hlt), okFrom]
end Go.Proofs.YtdigopgncfhiaaaDoor
/- open: a survey is the track, and Check's error. -/
namespace Go.Proofs.YtdigopgncfhiaaaDoor
set_option linter.unusedVariables false
open Go.RowKit
set_option linter.unusedSimpArgs false
set_option maxRecDepth 20000
theorem load_v {w : World} {g : Nat} {x : Value} (hk : Blk w g #[x]) : (loadVar 186 ⟨g, 0, none⟩).run Tryd.prog w = .ok (.agg #[x]) w := by
  have h0 := hk.cell 0
  simp at h0
  simp [go_sem, h0]
theorem results_vt {fn : Func} {t s : Tmp} {tmps : Array Value} {w : World} {g : Nat} {x : Value} (hr : fn.results = #[.cell t 186, .tmp s]) (hp : tmps.getD t undef = .pointer (some ⟨g, 0, none⟩)) (hk : Blk w g #[x]) :
    (results fn tmps).run Tryd.prog w = .ok (.tuple #[.agg #[x], tmps.getD s undef]) w := by
  simp [results, hr, -Array.getD_eq_getD_getElem?, hp, asAddr, load_v hk]
def errT (t : List St) : Int := if valid t then 0 else 10
set_option maxHeartbeats 2000000 in
theorem open_any (t : List St) (A : Option Addr) (cap : Nat) (w : World) (ht : SlAt encSt 9 w A t) (hf : FitT t) (hl : t.length ≤ 1000000) :
    Gives 118 #[vT A t.length cap] w (.tuple #[vT A t.length cap, .int .i64 (errT t)]) := by
  unfold Gives vT
  have HT := Lib.hid ht
  clear ht
  go_enter Tryd.func118, Tryd.ntmps118
  go_wp2
  have hc : ∀ W : World, Below w.heap.size w W → Gives 77 #[.agg #[.slice A t.length cap]] W (.int .i64 (errT t)) := by
    intro W hW
    exact check_any t A cap W (HT.out.below hW) hf hl
  have HC := Lib.hid hc
  clear hc
  generalize hW0 : (w.alloc (.cells #[.slice A t.length cap] 24)).alloc (.cells #[.slice none 0 0] 186) = W0
  have b1 : Blk W0 w.heap.size #[.slice A t.length cap] := by rw [← hW0]; (refine blkE ?_; repeat (first | (with_reducible refine BlkE.new_ (by first | (simp; done) | (simp; omega) | omega) ?_; (first | rfl | (simp; done))) | (with_reducible refine BlkE.alloc ?_ _) | (with_reducible refine BlkE.far ?_ _ (by first | (simp; done) | (simp; omega) | omega)) | (with_reducible refine BlkE.set_ ?_ (by first | (simp; done) | (simp; omega) | omega)) | (with_reducible refine BlkE.drew ?_) | (with_reducible refine BlkE.drewN ?_ _) | (refine BlkE.leaf (by assumption) ?_; (first | rfl | (simp; done)))))
  have b2 : Blk W0 (w.heap.size + 1) #[.slice none 0 0] := by rw [← hW0]; (refine blkE ?_; repeat (first | (with_reducible refine BlkE.new_ (by first | (simp; done) | (simp; omega) | omega) ?_; (first | rfl | (simp; done))) | (with_reducible refine BlkE.alloc ?_ _) | (with_reducible refine BlkE.far ?_ _ (by first | (simp; done) | (simp; omega) | omega)) | (with_reducible refine BlkE.set_ ?_ (by first | (simp; done) | (simp; omega) | omega)) | (with_reducible refine BlkE.drew ?_) | (with_reducible refine BlkE.drewN ?_ _) | (refine BlkE.leaf (by assumption) ?_; (first | rfl | (simp; done)))))
  have hB : Below w.heap.size w W0 := by rw [← hW0]; (repeat (first | (with_reducible refine bx_alloc ?_ _) | (with_reducible refine below_setCell ?_ (by first | (simp; done) | (simp; omega) | omega)) | (with_reducible refine below_drew ?_) | (with_reducible refine below_drewN ?_ _) | (with_reducible assumption) | (with_reducible exact Below.refl _ _)))
  have hs : W0.heap.size = w.heap.size + 2 := by rw [← hW0]; simp
  clear hW0
  obtain ⟨c1, f1, l1⟩ := b1.facts
  refine wp_region_law (fun b => b = w.heap.size + 1) (fun r => [oA (w.heap.size + 1) #[.slice none 0 0], vA 4 (.agg #[.slice A t.length cap]), vA 5 (.agg #[.slice A t.length cap]), vA 6 (.agg #[.slice A t.length cap]), vA 7 (.int .i64 (errT t)), oA (w.heap.size + 1) #[.slice A t.length cap], vA 3 (.int .i64 (errT t))].getD r nA) [(4, [0])] 1 (fun _ => [w.heap.size + 1]) 7 (by rfl) (by kernel_rfl) (by kernel_rfl) ?_ ?_ ?_ ?_ ?_ ?_
  · intro r hr
    obtain rfl : r = 0 := by omega
    exact oA_in rfl b2
  · intro r hr b hb
    simp at hb
    subst hb
    exact ⟨by omega, rfl⟩
  · intros; omega
  · (repeat (first | exact AllFrom.nil | (refine AllFrom.cons (asn_loc (by rintro _ ⟨⟩ <;> exact ⟨by decide, by kernel_rfl⟩)) ?_)))
  · (refine (OpsOk.cons ?_ (OpsOk.cons ?_ (OpsOk.cons ?_ (OpsOk.cons ?_ (OpsOk.cons ?_ (OpsOk.cons ?_ OpsOk.nil)))))))
    all_goals (refine OpOk.of (fun a v S hs hC hr hav K hK => ?_); have cC := hC.cells.1; have fC := hC.cells.2; have HS := Lib.hid hs; have HK := Lib.hid hC)
    · (have q1 := (hr 1 (by kernel_rfl)); clear hr hav hs hC; simp [Array.getD_eq_getD_getElem?, vSp] at q1; go_simp); (refine hK _ _ (post_val (vA_in (getD_put (by rw [HS.out]; exact Nat.lt_of_sub_ne_zero (by simp))))))
    · (have u1 := (hav 1 (by kernel_rfl)); (try dsimp only at u1); replace u1 := vA_out u1; clear hr hav hs hC; simp [Array.getD_eq_getD_getElem?, vSp] at u1; go_simp); (refine hK _ _ (post_val (vA_in (getD_put (by rw [HS.out]; exact Nat.lt_of_sub_ne_zero (by simp))))))
    · (have q1 := (hr 1 (by kernel_rfl)); clear hr hav hs hC; simp [Array.getD_eq_getD_getElem?, vSp] at q1; go_simp); (refine hK _ _ (post_val (vA_in (getD_put (by rw [HS.out]; exact Nat.lt_of_sub_ne_zero (by simp))))))
    · have hb := hB.trans (HK.out.below (n := w.heap.size) (by intros; omega) (by omega))
      (have u3 := (hav 3 (by kernel_rfl)); (try dsimp only at u3); replace u3 := vA_out u3; clear hr hav hs hC; simp [Array.getD_eq_getD_getElem?, vSp] at u3; go_simp)
      go_at_call 77
      refine (HC.out _ hb).mono ?_
      rintro e w1 ⟨rfl, hb1⟩
      (refine hK _ _ (post_call (by assumption) (vA_in (getD_put (by rw [HS.out]; exact Nat.lt_of_sub_ne_zero (by simp))))))
    · (have h0 := hav 0 (by kernel_rfl); (try dsimp only at h0))
      obtain ⟨hS, hbl⟩ := oA_out h0
      obtain ⟨k1, k2, k3⟩ := hbl.facts
      (have q2 := (hr 2 (by kernel_rfl)); have u2 := (hav 2 (by kernel_rfl)); (try dsimp only at u2); replace u2 := vA_out u2; clear hr hav hs hC; simp [Array.getD_eq_getD_getElem?, vSp] at q2; simp [Array.getD_eq_getD_getElem?, vSp] at u2; go_simp)
      refine hK undef _ (post_set 0 (by kernel_rfl) rfl rfl rfl (by simp) ?_ (oA_in hS ?_))
      · intro b hb; rw [hS] at hb; exact Below.heap_setCell _ _ _ _ (by simpa using hb)
      · (refine blkE ?_; repeat (first | (with_reducible refine BlkE.new_ (by first | (simp; done) | (simp; omega) | omega) ?_; (first | rfl | (simp; done))) | (with_reducible refine BlkE.alloc ?_ _) | (with_reducible refine BlkE.far ?_ _ (by first | (simp; done) | (simp; omega) | omega)) | (with_reducible refine BlkE.set_ ?_ (by first | (simp; done) | (simp; omega) | omega)) | (with_reducible refine BlkE.drew ?_) | (with_reducible refine BlkE.drewN ?_ _) | (refine BlkE.leaf (by assumption) ?_; (first | rfl | (simp; done)))))
    · (have u4 := (hav 4 (by kernel_rfl)); (try dsimp only at u4); replace u4 := vA_out u4; clear hr hav hs hC; simp [Array.getD_eq_getD_getElem?, vSp] at u4; go_simp); (refine hK _ _ (post_val (vA_in (getD_put (by rw [HS.out]; exact Nat.lt_of_sub_ne_zero (by simp))))))
  · intro a v S hs hd hrest hC hav
    (have h5 := hav 5 (by kernel_rfl); (try dsimp only at h5))
    have hbl := (oA_out h5).2
    have hb := hB.trans (hC.below (n := w.heap.size) (by intros; omega) (by omega))
    (have u6 := hav 6 (by kernel_rfl); (try dsimp only at u6); replace u6 := vA_out u6; have u4 := hav 4 (by kernel_rfl); (try dsimp only at u4); replace u4 := vA_out u4; have u3 := hav 3 (by kernel_rfl); (try dsimp only at u3); replace u3 := vA_out u3; have u2 := hav 2 (by kernel_rfl); (try dsimp only at u2); replace u2 := vA_out u2; have u1 := hav 1 (by kernel_rfl); (try dsimp only at u1); replace u1 := vA_out u1; have hfr := act_put hs hd hrest _ (by kernel_rfl) (by simp) (wr_cons u1 (wr_cons u2 (wr_cons u3 (wr_cons u4 (wr_cons u6 wr_nil))))); simp only [List.foldl_cons, List.foldl_nil] at hfr; subst hfr)
    go_wp2
    refine bodyPost_ret (results_vt (x := .slice A t.length cap) rfl rfl ?_) rfl ⟨rfl, hb⟩
    exact hbl
end Go.Proofs.YtdigopgncfhiaaaDoor
/- Twin, and the reference's marks. -/
namespace Go.Proofs.YtdigopgncfhiaaaDoor
variable {ro : Option Nat}
set_option linter.unusedVariables false
open Go.RowKit
set_option maxRecDepth 20000
set_option linter.unusedSimpArgs false
theorem elem_st : Elem Tryd.prog 22 114 9 72 (.agg #[.int .i64 0, .int .i64 0, .int .i64 0, .int .i64 0, .int .i64 0, .int .i64 0, .int .i64 0, .int .u8 0, .int .i64 0]) :=
  ⟨by simp [go_sem], info_parts (by kernel_rfl), by rfl, by decide⟩
instance : ElI Tryd.prog 22 114 9 72 := ⟨⟨_, elem_st⟩⟩
set_option maxHeartbeats 1000000 in
theorem twin_any (t : List St) (A : Option Addr) (cap : Nat) (w : World) (ht : SlAt encSt 9 w A t) (hl : t.length ≤ 1000) :
    NewSl encSt 9 t (fun v => .agg #[v]) Tryd.prog 36 [vT A t.length cap] w := by
  unfold NewSl vT
  (refine ret_enter (n := 8) Tryd.func36 rfl rfl rfl ?_)
  (repeat' (first | ((with_reducible refine isOps ?_); first | (refine x_load rfl rfl rfl rfl rfl ?_; refine ⟨_, rfl, ?_⟩) | refine u_field rfl rfl rfl rfl rfl ?_ | (refine u_buildNil encSt rfl rfl rfl rfl (fun b => ?_)) | (refine u_append (enc := encSt) t rfl rfl rfl rfl rfl (by (repeat (first | exact Take.here _ _ | apply Take.there))) rfl rfl (src_in ht) (by refine ⟨?_, by decide⟩; (try simp only [List.length_append, List.length_cons, List.length_nil]); omega) (fun A' c' => ?_)) | (refine x_store rfl rfl rfl rfl rfl ?_; refine And.intro rfl (And.intro (by first | decide | exact Nat.le_of_ble_eq_true rfl | (simp; omega)) ⟨_, rfl, ?_⟩)) | (refine u_alloc rfl rfl rfl rfl (fun b => ?_)) | (refine u_box rfl rfl rfl rfl rfl rfl (fun b => ?_)) | (refine x_build rfl rfl rfl rfl rfl ?_; refine ⟨_, rfl, ?_⟩)) | (with_reducible first | refine u_seq ?_ | refine u_region ?_ | refine u_nil ?_ | refine u_then_n ?_ | refine u_ret ?_)))
  refine u_done (by (exact ResL.cons (by exact res1c rfl (by exact rfl)) ResL.nil)) (A', c') trivial rfl (fun _ h => (h.row_sl (by (repeat (first | exact Take.here _ _ | apply Take.there)))).sub (by (repeat (first | exact Out.nil _ | (refine Out.cons (by (repeat (first | exact Take.here _ _ | apply Take.there))) ?_)))))
theorem check_n (t : List St) (A : Option Addr) (cap : Nat) (w : World) (ht : SlAt encSt 9 w A t) (hf : FitT t) (hl : t.length ≤ 1000000) : Gv Tryd.prog 77 [.agg #[.slice A t.length cap]] w (.int .i64 (errT t)) := (check_any t A cap w ht hf hl).gv
theorem rcheck_n (t : List St) (A : Option Addr) (cap : Nat) (w : World) (ht : SlAt encSt 9 w A t) (hf : FitT t) (hl : t.length ≤ 1000000) : Gv Tryd.prog 82 [.agg #[.slice A t.length cap]] w (.int .i64 (errT t)) := (rcheck_any t A cap w ht hf hl).gv
end Go.Proofs.YtdigopgncfhiaaaDoor
/- Small facts: the error of a track; a slice of nothing. -/
namespace Go.Proofs.YtdigopgncfhiaaaDoor
variable {ro : Option Nat}
set_option linter.unusedVariables false
open Go.RowKit
set_option maxRecDepth 20000
set_option linter.unusedSimpArgs false
theorem errT_yes {t : List St} (h : valid t = true) : errT t = 0 := by simp [errT, h]
theorem errT_no {t : List St} (h : valid t = false) : errT t = 10 := by simp [errT, h]
theorem sl_nil {α : Type} {enc : α → List Value} {k : Nat} {base : Nat} {w : World} {H : List Ent} (_ : Own base w H) : Own base w [.sl enc k none ([] : List α)] := by
  refine ⟨fun e he => ?_, fun e he b hb => ?_, by simp⟩
  · simp only [List.mem_singleton] at he
    subst he
    exact SlAt.nil
  · simp only [List.mem_singleton] at he
    subst he
    obtain ⟨o, ho⟩ := hb
    cases ho
section
variable {w0 : World} {n : Nat} {d : List Deferred} {R : List (Nat × Value)} {H : List Ent} {Q : Exit → Act → World → Prop} {ops : Array Oper} {rest : List Oper} {o : Oper} {t : Tmp} {x y : Operand}
theorem u_nesp {a b c e : Int} {T' : TypeId} (hop : o.op = .binOp .neq 28 x y T') (hw : want R ops o = some true) (hd : o.dst = some t) (ht : Nat.blt t n = true) (hx : evR R x = some (.agg #[.int .i64 a, .int .i64 b])) (hy : evR R y = some (.agg #[.int .i64 c, .int .i64 e]))
    (h1 : a = c ∧ b = e → U w0 n d ((t, .bool false) :: R) H (wpL ro Tryd.prog ops Q rest)) (h2 : ¬ (a = c ∧ b = e) → U w0 n d ((t, .bool true) :: R) H (wpL ro Tryd.prog ops Q rest)) : U w0 n d R H (wpL ro Tryd.prog ops Q (o :: rest)) :=
  u_eql hop hw hd ht hx hy (fun w => gd_sp _ _ _ _ _ w) (fun w => run_neq_sp a b c e w) (fun h => h2 (by simpa using eqSp_no.1 (by simpa using h))) (fun h => h1 (by simpa using eqSp_iff.1 (by simpa using h)))
end
end Go.Proofs.YtdigopgncfhiaaaDoor
/- Choices: ready, choose, some. -/
