/- What the program's types are to the model; comparisons of structs. -/
import Derived.Test.YtdigopgncfhiaaaDoorBase
namespace Go.Proofs.YtdigopgncfhiaaaDoor
set_option linter.unusedVariables false
set_option linter.unusedSimpArgs false
open Go.RowKit

theorem guardSp : Tryd.prog.eqGuardType Tryd.prog.depth 28 = false := by kernel_rfl
theorem guardSt : Tryd.prog.eqGuardType Tryd.prog.depth 114 = false := by kernel_rfl
theorem heldSp : Tryd.prog.stoodInHeld 28 = false := by kernel_rfl
theorem heldSt : Tryd.prog.stoodInHeld 114 = false := by kernel_rfl
theorem eqSp_mk (a b c d : Int) : eqSp ⟨a, b⟩ ⟨c, d⟩ = (a == c && b == d) := by
  unfold eqSp; rw [Bool.eq_iff_iff]; simp
theorem eqSt_mk (i j : Int) (a b c d e f : Sp) (m n p q : Int) : eqSt ⟨i, a, b, c, m, p⟩ ⟨j, d, e, f, n, q⟩ = (i == j && (eqSp a d && (eqSp b e && (eqSp c f && (m == n && p == q))))) := by
  unfold eqSt eqSp; rw [Bool.eq_iff_iff]; simp
theorem eqMe_mk (k l f g t u : Int) (a b : Sp) : eqMe ⟨k, f, t, a⟩ ⟨l, g, u, b⟩ = (k == l && (f == g && (t == u && eqSp a b))) := by
  unfold eqMe eqSp; rw [Bool.eq_iff_iff]; simp

@[go_sem] theorem gd_sp (op : BinOp) (x y : Operand) (xs ys : Array Value) (w : World) : (eqGuard op 28 x y (.agg xs) (.agg ys)).run Tryd.prog w = .ok () w := run_eqGuard_agg _ _ _ _ _ _ _ guardSp
@[go_sem] theorem gd_st (op : BinOp) (x y : Operand) (xs ys : Array Value) (w : World) : (eqGuard op 114 x y (.agg xs) (.agg ys)).run Tryd.prog w = .ok () w := run_eqGuard_agg _ _ _ _ _ _ _ guardSt
theorem run_eqIn_sp (d : Nat) (a b a' b' : Int) (w : World) : (Op.equalIn (d + 2) 28 (.agg #[.int .i64 a, .int .i64 b]) (.agg #[.int .i64 a', .int .i64 b'])).run Tryd.prog w = .ok (eqSp ⟨a, b⟩ ⟨a', b'⟩) w := by
  rw [run_equalIn_agg _ _ _ _ _ (by simp [go_sem]) heldSp, eqSp_mk]
  by_cases h1 : a = a' <;> by_cases h2 : b = b' <;> simp [go_sem, h1, h2]

@[go_sem ↓] theorem run_eql_sp (a b a' b' : Int) (w : World) : (binOp .eql 28 (.agg #[.int .i64 a, .int .i64 b]) (.agg #[.int .i64 a', .int .i64 b'])).run Tryd.prog w = .ok (.bool (eqSp ⟨a, b⟩ ⟨a', b'⟩)) w := by
  rw [run_eql_struct, run_eqIn_sp]; rfl
@[go_sem ↓] theorem run_neq_sp (a b a' b' : Int) (w : World) : (binOp .neq 28 (.agg #[.int .i64 a, .int .i64 b]) (.agg #[.int .i64 a', .int .i64 b'])).run Tryd.prog w = .ok (.bool (!eqSp ⟨a, b⟩ ⟨a', b'⟩)) w := by
  rw [run_neq_struct, run_eqIn_sp]; rfl

theorem run_eqIn_st (d : Nat) (s t : St) (w : World) : (Op.equalIn (d + 3) 114 (vSt s) (vSt t)).run Tryd.prog w = .ok (eqSt s t) w := by
  obtain ⟨i, ⟨a1, a2⟩, ⟨b1, b2⟩, ⟨c1, c2⟩, m, p⟩ := s
  obtain ⟨j, ⟨d1, d2⟩, ⟨e1, e2⟩, ⟨f1, f2⟩, n, q⟩ := t
  unfold vSt
  rw [run_equalIn_agg _ _ _ _ _ (by simp [go_sem]) heldSt, eqSt_mk]
  simp [go_sem, run_eqIn_sp]
  generalize eqSp ⟨a1, a2⟩ ⟨d1, d2⟩ = x1
  generalize eqSp ⟨b1, b2⟩ ⟨e1, e2⟩ = x2
  generalize eqSp ⟨c1, c2⟩ ⟨f1, f2⟩ = x3
  by_cases h1 : i = j <;> by_cases h2 : m = n <;> by_cases h3 : p = q <;> cases x1 <;> cases x2 <;> cases x3 <;> simp [h1, h2, h3]

@[go_sem ↓] theorem run_eql_st (i j m n p q a1 a2 b1 b2 c1 c2 d1 d2 e1 e2 f1 f2 : Int) (w : World) : (binOp .eql 114 (.agg #[.int .i64 i, .int .i64 a1, .int .i64 a2, .int .i64 b1, .int .i64 b2, .int .i64 c1, .int .i64 c2, .int .u8 m, .int .i64 p]) (.agg #[.int .i64 j, .int .i64 d1, .int .i64 d2, .int .i64 e1, .int .i64 e2, .int .i64 f1, .int .i64 f2, .int .u8 n, .int .i64 q])).run Tryd.prog w = .ok (.bool (eqSt ⟨i, ⟨a1, a2⟩, ⟨b1, b2⟩, ⟨c1, c2⟩, m, p⟩ ⟨j, ⟨d1, d2⟩, ⟨e1, e2⟩, ⟨f1, f2⟩, n, q⟩)) w := by
  have := run_eqIn_st 9997 ⟨i, ⟨a1, a2⟩, ⟨b1, b2⟩, ⟨c1, c2⟩, m, p⟩ ⟨j, ⟨d1, d2⟩, ⟨e1, e2⟩, ⟨f1, f2⟩, n, q⟩ w
  unfold vSt at this
  rw [run_eql_struct, this]; rfl
@[go_sem ↓] theorem run_neq_st (i j m n p q a1 a2 b1 b2 c1 c2 d1 d2 e1 e2 f1 f2 : Int) (w : World) : (binOp .neq 114 (.agg #[.int .i64 i, .int .i64 a1, .int .i64 a2, .int .i64 b1, .int .i64 b2, .int .i64 c1, .int .i64 c2, .int .u8 m, .int .i64 p]) (.agg #[.int .i64 j, .int .i64 d1, .int .i64 d2, .int .i64 e1, .int .i64 e2, .int .i64 f1, .int .i64 f2, .int .u8 n, .int .i64 q])).run Tryd.prog w = .ok (.bool (!eqSt ⟨i, ⟨a1, a2⟩, ⟨b1, b2⟩, ⟨c1, c2⟩, m, p⟩ ⟨j, ⟨d1, d2⟩, ⟨e1, e2⟩, ⟨f1, f2⟩, n, q⟩)) w := by
  have := run_eqIn_st 9997 ⟨i, ⟨a1, a2⟩, ⟨b1, b2⟩, ⟨c1, c2⟩, m, p⟩ ⟨j, ⟨d1, d2⟩, ⟨e1, e2⟩, ⟨f1, f2⟩, n, q⟩ w
  unfold vSt at this
  rw [run_neq_struct, this]; rfl
/-! ### results that lie in memory -/
theorem load_sp {w : World} {g : Nat} {x y : Value} (hk : Blk w g #[x, y]) : (loadVar 28 ⟨g, 0, none⟩).run Tryd.prog w = .ok (.agg #[x, y]) w := by
  have h0 := hk.cell 0
  have h1 := hk.cell 1
  simp at h0 h1
  simp [go_sem, h0, h1]
theorem load_t {w : World} {g : Nat} {x : Value} (hk : Blk w g #[x]) : (loadVar 24 ⟨g, 0, none⟩).run Tryd.prog w = .ok (.agg #[x]) w := by
  have h0 := hk.cell 0
  simp at h0
  simp [go_sem, h0]
theorem results_sp {fn : Func} {t : Tmp} {tmps : Array Value} {w : World} {g : Nat} {x y : Value} (hr : fn.results = #[.cell t 28]) (hp : tmps.getD t undef = .pointer (some ⟨g, 0, none⟩)) (hk : Blk w g #[x, y]) :
    (results fn tmps).run Tryd.prog w = .ok (.agg #[x, y]) w := by
  simp [results, hr, -Array.getD_eq_getD_getElem?, hp, asAddr, load_sp hk]
theorem results_sp2 {fn : Func} {t u : Tmp} {tmps : Array Value} {w : World} {g g' : Nat} {x y x' y' : Value} (hr : fn.results = #[.cell t 28, .cell u 28]) (hp : tmps.getD t undef = .pointer (some ⟨g, 0, none⟩)) (hk : Blk w g #[x, y]) (hp' : tmps.getD u undef = .pointer (some ⟨g', 0, none⟩)) (hk' : Blk w g' #[x', y']) :
    (results fn tmps).run Tryd.prog w = .ok (.tuple #[.agg #[x, y], .agg #[x', y']]) w := by
  simp [results, hr, -Array.getD_eq_getD_getElem?, hp, hp', asAddr, load_sp hk, load_sp hk']
theorem results_sp3 {fn : Func} {t u s : Tmp} {tmps : Array Value} {w : World} {g g' : Nat} {x y x' y' : Value} (hr : fn.results = #[.cell t 28, .cell u 28, .tmp s]) (hp : tmps.getD t undef = .pointer (some ⟨g, 0, none⟩)) (hk : Blk w g #[x, y]) (hp' : tmps.getD u undef = .pointer (some ⟨g', 0, none⟩)) (hk' : Blk w g' #[x', y']) :
    (results fn tmps).run Tryd.prog w = .ok (.tuple #[.agg #[x, y], .agg #[x', y'], tmps.getD s undef]) w := by
  simp [results, hr, -Array.getD_eq_getD_getElem?, hp, hp', asAddr, load_sp hk, load_sp hk']
theorem results_spt {fn : Func} {t s : Tmp} {tmps : Array Value} {w : World} {g : Nat} {x y : Value} (hr : fn.results = #[.cell t 28, .tmp s]) (hp : tmps.getD t undef = .pointer (some ⟨g, 0, none⟩)) (hk : Blk w g #[x, y]) :
    (results fn tmps).run Tryd.prog w = .ok (.tuple #[.agg #[x, y], tmps.getD s undef]) w := by
  simp [results, hr, -Array.getD_eq_getD_getElem?, hp, asAddr, load_sp hk]
theorem results_t {fn : Func} {t : Tmp} {tmps : Array Value} {w : World} {g : Nat} {x : Value} (hr : fn.results = #[.cell t 24]) (hp : tmps.getD t undef = .pointer (some ⟨g, 0, none⟩)) (hk : Blk w g #[x]) :
    (results fn tmps).run Tryd.prog w = .ok (.agg #[x]) w := by
  simp [results, hr, -Array.getD_eq_getD_getElem?, hp, asAddr, load_t hk]
end Go.Proofs.YtdigopgncfhiaaaDoor
/- The small functions: in, known, within, span, Great, Twin. -/
namespace Go.Proofs.YtdigopgncfhiaaaDoor
set_option linter.unusedVariables false
set_option linter.unusedSimpArgs false
open Go.RowKit

/-- in's closure: is a number outside? -/
theorem in_fn (n lo hi : Int) (a b : Addr) (w : World) (ha : w.cell? a = some (.int .i64 lo)) (hb : w.cell? b = some (.int .i64 hi)) :
    Gives 123 #[.int .i64 n, .pointer (some a), .pointer (some b)] w (.bool (!inB lo hi n)) := by
  unfold Gives
  by_cases h : n < lo
  · go_enter Tryd.func123, Tryd.ntmps123
    go_wp2
    go_ret
    exact ⟨ret_of (congrArg Value.bool (by rw [Bool.eq_iff_iff]; simp [inB]; omega)), Below.refl _ _⟩
  · go_enter Tryd.func123, Tryd.ntmps123
    go_wp2
    go_ret
    exact ⟨ret_of (congrArg Value.bool (by rw [Bool.eq_iff_iff]; simp [inB]; omega)), Below.refl _ _⟩

def findI {α : Type} (p : α → Bool) (l : List α) : Int := match l.findIdx? p with | some i => i | none => -1
theorem findI_neg {α : Type} (p : α → Bool) (l : List α) : decide (0 ≤ findI p l) = l.any p := by
  unfold findI
  rw [Bool.eq_iff_iff]
  cases h : l.findIdx? p with
  | none => simp [List.findIdx?_eq_none_iff] at h; simp; exact h
  | some i =>
    simp
    have := List.findIdx?_eq_some_iff_getElem.1 h
    obtain ⟨hi, hp, _⟩ := this
    exact ⟨l[i], List.getElem_mem hi, hp⟩

set_option maxHeartbeats 1000000 in
theorem index_func (l : List Int) (cap : Nat) (A : Option Addr) (k : FuncId) (c1 c2 : Value) (p : Int → Bool) (w : World)
   (hl : l.length ≤ 1000000) (hk : SlAt encI 1 w A l)
   (hb : ∀ args w, (callFunc k args).run Tryd.prog w = .ok (.enter k args) w)
   (hp : ∀ x W, Below w.heap.size w W → Gives k #[.int .i64 x, c1, c2] W (.bool (p x))) :
    Gives 90 #[.slice A l.length cap, .func (.func k) #[] #[c1, c2]] w (.int .i64 (findI p l)) := by
  unfold Gives
  have HP := Lib.hid hp
  clear hp
  have HK := Lib.hid hk
  clear hk
  go_enter Tryd.func90, Tryd.ntmps90
  go_wp2
  go_loopw [8] (fun v wr => ∃ i : Nat, i ≤ l.length ∧ v = .int .i64 i ∧ Below w.heap.size w wr ∧ Hid (l.findIdx? p = ((l.drop i).findIdx? p).map (· + i))) (fun v _ => l.length - (intOf v).toNat)
  case atStart => exact ⟨0, Nat.zero_le _, rfl, Below.refl _ _, by unfold Hid; simp⟩
  case round =>
    obtain ⟨i, hi, rfl, hB, hF⟩ := hrel
    by_cases hlt : i < l.length
    · obtain ⟨b, o, rfl, hblt, hc⟩ := (HK.out.below hB).at_ hlt
      have hc' := hc 0 _ rfl
      simp only [Nat.add_zero, Nat.mul_one] at hc'
      clear hc
      go_wp2_with fail
      refine (HP.out _ _ hB).mono ?_
      rintro e w1 ⟨rfl, hb1⟩
      have hB1 : Below w.heap.size w w1 := hB.trans (hb1.mono hB.size)
      clear hc'
      by_cases hpp : p l[i] = true
      · rw [hpp]
        go_wp2
        go_ret
        refine ⟨ret_of ?_, hB1⟩
        unfold findI
        rw [hF.out, List.drop_eq_getElem_cons hlt, List.findIdx?_cons, hpp]
        simp
      · have hpp' : p l[i] = false := by simpa using hpp
        rw [hpp']
        go_wp2
        go_roundw
        case rel =>
          refine ⟨i + 1, by omega, by go_num, hB1, ?_⟩
          unfold Hid
          rw [hF.out, List.drop_eq_getElem_cons hlt, List.findIdx?_cons, hpp']
          simp [Function.comp_def, Nat.add_assoc, Nat.add_comm 1]
        case measure => simp [intOf]; omega
    · go_wp2
      go_ret
      refine ⟨ret_of ?_, hB⟩
      unfold findI
      rw [hF.out, List.drop_eq_nil_of_le (by omega)]
      simp

set_option maxHeartbeats 1000000 in
theorem contains_func (l : List Int) (cap : Nat) (A : Option Addr) (k : FuncId) (c1 c2 : Value) (p : Int → Bool) (w : World)
   (hl : l.length ≤ 1000000) (hk : SlAt encI 1 w A l)
   (hb : ∀ args w, (callFunc k args).run Tryd.prog w = .ok (.enter k args) w)
   (hp : ∀ x W, Below w.heap.size w W → Gives k #[.int .i64 x, c1, c2] W (.bool (p x))) :
    Gives 105 #[.slice A l.length cap, .func (.func k) #[] #[c1, c2]] w (.bool (l.any p)) := by
  unfold Gives
  have HI := Lib.hid (index_func l cap A k c1 c2 p w hl hk hb hp)
  clear hp hb hk
  go_enter Tryd.func105, Tryd.ntmps105
  go_wp2_with fail
  refine HI.out.mono ?_
  rintro e w1 ⟨rfl, hb1⟩
  go_wp2
  go_ret
  exact ⟨ret_of (by simp [findI_neg]), hb1⟩

theorem any_out (lo hi : Int) (l : List Int) : (!(l.any fun n => !inB lo hi n)) = l.all (inB lo hi) := by
  induction l with
  | nil => rfl
  | cons a l ih => simp [← ih]

set_option maxHeartbeats 1000000 in
theorem in_all (lo hi : Int) (l : List Int) (cap : Nat) (A : Option Addr) (w : World) (hl : l.length ≤ 1000000) (hk : SlAt encI 1 w A l) :
    Gives 99 #[.int .i64 lo, .int .i64 hi, .slice A l.length cap] w (.bool (l.all (inB lo hi))) := by
  unfold Gives
  have HK := Lib.hid hk
  clear hk
  go_enter Tryd.func99, Tryd.ntmps99
  go_wp2_with fail
  refine (contains_func l cap A 123 _ _ (fun n => !inB lo hi n) _ hl ((HK.out.alloc _).alloc _) (enters Tryd.func123 (by kernel_rfl) rfl) ?_).mono ?_
  · intro x W hW
    refine in_fn x lo hi _ _ W ?_ ?_
    · rw [hW.cell (by simp <;> omega)]; simp
    · rw [hW.cell (by simp <;> omega)]; simp
  · rintro e w1 ⟨rfl, hb1⟩
    go_wp2
    go_ret
    exact ⟨ret_of (by first | rfl | simp [any_out]), ((below_alloc w _).trans ((below_alloc _ _).mono (by simp))).trans (hb1.mono (by simp <;> omega))⟩

theorem slAt_new1 (w : World) (t : TypeId) (x : Int) : SlAt encI 1 (w.alloc (.cells #[.int .i64 x] t)) (some ⟨w.heap.size, 0, none⟩) [x] := by
  intro i y hy
  rcases i with _ | i
  · simp at hy; subst hy
    refine ⟨_, _, rfl, by simp, fun j v hv => ?_⟩
    rcases j with _ | j
    · simp [encI] at hv; subst hv; simp
    · simp [encI] at hv
  · simp at hy
theorem slAt_new2 (w : World) (t : TypeId) (x y : Int) : SlAt encI 1 (w.alloc (.cells #[.int .i64 x, .int .i64 y] t)) (some ⟨w.heap.size, 0, none⟩) [x, y] := by
  intro i z hz
  refine ⟨_, _, rfl, by simp, fun j v hv => ?_⟩
  rcases j with _ | j
  · rcases i with _ | _ | i
    · simp at hz; subst hz; simp [encI] at hv; subst hv; simp
    · simp at hz; subst hz; simp [encI] at hv; subst hv; simp
    · simp at hz
  · simp [encI] at hv

/-- in of one number, in new memory -/
theorem in_one (lo hi x : Int) (c : Nat) (t : TypeId) (b : Nat) (w : World) (hb : b = w.heap.size) :
    Gives 99 #[.int .i64 lo, .int .i64 hi, .slice (some ⟨b, 0, none⟩) 1 c] (w.alloc (.cells #[.int .i64 x] t)) (.bool (inB lo hi x)) := by
  subst hb
  exact (in_all lo hi [x] c _ _ (by simp) (slAt_new1 w t x)).of (by simp)
theorem in_two (lo hi x y : Int) (c : Nat) (t : TypeId) (b : Nat) (w : World) (hb : b = w.heap.size) :
    Gives 99 #[.int .i64 lo, .int .i64 hi, .slice (some ⟨b, 0, none⟩) 2 c] (w.alloc (.cells #[.int .i64 x, .int .i64 y] t)) (.bool (inB lo hi x && inB lo hi y)) := by
  subst hb
  exact (in_all lo hi [x, y] c _ _ (by simp) (slAt_new2 w t x y)).of (by simp)

set_option maxHeartbeats 1000000 in
theorem known_any (s : Sp) (lo hi : Int) (w : World) : Gives 114 #[vSp s, .int .i64 lo, .int .i64 hi] w (.bool (knownB s lo hi)) := by
  unfold Gives vSp
  cases h1 : inB lo hi s.lo && inB lo hi s.hi
  all_goals
    have H1 := Lib.hid h1
    clear h1
    go_enter Tryd.func114, Tryd.ntmps114
    go_wp2_with fail
    refine (in_two lo hi s.lo s.hi _ _ _ _ (by simp)).mono ?_
    rintro e w1 ⟨rfl, hb1⟩
    rw [H1.out]
    obtain ⟨hc, hf⟩ := bcell hb1
    go_wp2
    go_ret
    refine ⟨ret_of (congrArg Value.bool ?_), ((below_alloc w _).trans ((below_alloc _ _).mono (by simp))).trans (hb1.mono (by simp <;> omega))⟩
    unfold knownB
    rw [H1.out]
    simp

theorem within_any (n lo hi : Int) (w : World) : Gives 103 #[.int .i64 n, .int .i64 lo, .int .i64 hi] w (.bool (inB lo hi n)) := by
  unfold Gives
  by_cases h : lo ≤ n
  · go_enter Tryd.func103, Tryd.ntmps103
    go_wp2
    go_ret
    exact ⟨ret_of (congrArg Value.bool (by rw [Bool.eq_iff_iff]; simp [inB, h])), Below.refl _ _⟩
  · go_enter Tryd.func103, Tryd.ntmps103
    go_wp2
    go_ret
    exact ⟨ret_of (congrArg Value.bool (by rw [Bool.eq_iff_iff]; simp [inB]; omega)), Below.refl _ _⟩

set_option maxHeartbeats 1000000 in
theorem span_any (s : Sp) (lo hi : Int) (w : World) : Gives 124 #[vSp s, .int .i64 lo, .int .i64 hi] w (.bool (knownB s lo hi)) := by
  unfold Gives vSp
  cases h1 : inB lo s.hi s.lo
  all_goals
    have H1 := Lib.hid h1
    clear h1
    go_enter Tryd.func124, Tryd.ntmps124
    go_wp2_with fail
    refine (within_any s.lo lo s.hi _).mono ?_
    rintro e w1 ⟨rfl, hb1⟩
    rw [H1.out]
    obtain ⟨hc, hf⟩ := bcell hb1
    go_wp2
    go_ret
    refine ⟨ret_of (congrArg Value.bool ?_), (below_alloc w _).trans (hb1.mono (by simp <;> omega))⟩
    have h := H1.out
    simp only [inB, decide_eq_true_eq, decide_eq_false_iff_not] at h
    rw [Bool.eq_iff_iff]; simp [knownB, inB]; omega

/-- A track as it goes from call to call. -/
def vT (A : Option Addr) (n c : Nat) : Value := .agg #[.slice A n c]

theorem great_any (A : Option Addr) (n c : Nat) (w : World) : Gives 35 #[vT A n c] w (.bool (decide (20 < n))) := by
  unfold Gives vT
  go_enter Tryd.func35, Tryd.ntmps35
  go_wp2
  go_ret
  exact ⟨ret_of (congrArg Value.bool (by rw [Bool.eq_iff_iff]; simp <;> omega)), below_alloc w _⟩
end Go.Proofs.YtdigopgncfhiaaaDoor
