/- What the program's types are to the model; comparisons of structs. -/
import Derived.Test.YtekjkaoibcfgfaaBase
import Derived.Test.YtekjkaoibcfgfaaData
namespace Go.Proofs.Ytekjkaoibcfgfaa
open Go.RowKit

theorem guardSp : Try.prog.eqGuardType Try.prog.depth 34 = false := by kernel_rfl
theorem guardSt : Try.prog.eqGuardType Try.prog.depth 82 = false := by kernel_rfl
theorem guardMe : Try.prog.eqGuardType Try.prog.depth 73 = false := by kernel_rfl
theorem heldSp : Try.prog.stoodInHeld 34 = false := by kernel_rfl
theorem heldSt : Try.prog.stoodInHeld 82 = false := by kernel_rfl
theorem heldMe : Try.prog.stoodInHeld 73 = false := by kernel_rfl

theorem eqSp_mk (a b c d : Int) : eqSp ⟨a, b⟩ ⟨c, d⟩ = (a == c && b == d) := by
  unfold eqSp; rw [Bool.eq_iff_iff]; simp
theorem eqSt_mk (i j : Int) (a b c d e f : Sp) (m n p q : Int) : eqSt ⟨i, a, b, c, m, p⟩ ⟨j, d, e, f, n, q⟩ = (i == j && (eqSp a d && (eqSp b e && (eqSp c f && (m == n && p == q))))) := by
  unfold eqSt eqSp; rw [Bool.eq_iff_iff]; simp
theorem eqMe_mk (k l f g t u : Int) (a b : Sp) : eqMe ⟨k, f, t, a⟩ ⟨l, g, u, b⟩ = (k == l && (f == g && (t == u && eqSp a b))) := by
  unfold eqMe eqSp; rw [Bool.eq_iff_iff]; simp

@[go_sem] theorem gd_sp (op : BinOp) (x y : Operand) (xs ys : Array Value) (w : World) : (eqGuard op 34 x y (.agg xs) (.agg ys)).run Try.prog w = .ok () w := run_eqGuard_agg _ _ _ _ _ _ _ guardSp
@[go_sem] theorem gd_st (op : BinOp) (x y : Operand) (xs ys : Array Value) (w : World) : (eqGuard op 82 x y (.agg xs) (.agg ys)).run Try.prog w = .ok () w := run_eqGuard_agg _ _ _ _ _ _ _ guardSt
@[go_sem] theorem gd_me (op : BinOp) (x y : Operand) (xs ys : Array Value) (w : World) : (eqGuard op 73 x y (.agg xs) (.agg ys)).run Try.prog w = .ok () w := run_eqGuard_agg _ _ _ _ _ _ _ guardMe

theorem run_eqIn_sp (d : Nat) (a b a' b' : Int) (w : World) : (Op.equalIn (d + 2) 34 (.agg #[.int .i64 a, .int .i64 b]) (.agg #[.int .i64 a', .int .i64 b'])).run Try.prog w = .ok (eqSp ⟨a, b⟩ ⟨a', b'⟩) w := by
  rw [run_equalIn_agg _ _ _ _ _ (by simp [go_sem]) heldSp, eqSp_mk]
  by_cases h1 : a = a' <;> by_cases h2 : b = b' <;> simp [go_sem, h1, h2]

@[go_sem ↓] theorem run_eql_sp (a b a' b' : Int) (w : World) : (binOp .eql 34 (.agg #[.int .i64 a, .int .i64 b]) (.agg #[.int .i64 a', .int .i64 b'])).run Try.prog w = .ok (.bool (eqSp ⟨a, b⟩ ⟨a', b'⟩)) w := by
  rw [run_eql_struct, run_eqIn_sp]; rfl
@[go_sem ↓] theorem run_neq_sp (a b a' b' : Int) (w : World) : (binOp .neq 34 (.agg #[.int .i64 a, .int .i64 b]) (.agg #[.int .i64 a', .int .i64 b'])).run Try.prog w = .ok (.bool (!eqSp ⟨a, b⟩ ⟨a', b'⟩)) w := by
  rw [run_neq_struct, run_eqIn_sp]; rfl

theorem run_eqIn_st (d : Nat) (s t : St) (w : World) : (Op.equalIn (d + 3) 82 (vSt s) (vSt t)).run Try.prog w = .ok (eqSt s t) w := by
  obtain ⟨i, ⟨a1, a2⟩, ⟨b1, b2⟩, ⟨c1, c2⟩, m, p⟩ := s
  obtain ⟨j, ⟨d1, d2⟩, ⟨e1, e2⟩, ⟨f1, f2⟩, n, q⟩ := t
  unfold vSt
  rw [run_equalIn_agg _ _ _ _ _ (by simp [go_sem]) heldSt, eqSt_mk]
  simp [go_sem, run_eqIn_sp]
  generalize eqSp ⟨a1, a2⟩ ⟨d1, d2⟩ = x1
  generalize eqSp ⟨b1, b2⟩ ⟨e1, e2⟩ = x2
  generalize eqSp ⟨c1, c2⟩ ⟨f1, f2⟩ = x3
  by_cases h1 : i = j <;> by_cases h2 : m = n <;> by_cases h3 : p = q <;> cases x1 <;> cases x2 <;> cases x3 <;> simp [h1, h2, h3]

theorem run_eqIn_me (d : Nat) (s t : Me) (w : World) : (Op.equalIn (d + 3) 73 (vMe s) (vMe t)).run Try.prog w = .ok (eqMe s t) w := by
  obtain ⟨i, a, b, c1, c2⟩ := s
  obtain ⟨j, d, e, f1, f2⟩ := t
  unfold vMe
  rw [run_equalIn_agg _ _ _ _ _ (by simp [go_sem]) heldMe, eqMe_mk]
  simp [go_sem, run_eqIn_sp]
  generalize eqSp ⟨c1, c2⟩ ⟨f1, f2⟩ = x3
  by_cases h1 : i = j <;> by_cases h2 : a = d <;> by_cases h3 : b = e <;> cases x3 <;> simp [h1, h2, h3]

@[go_sem ↓] theorem run_eql_st (i j m n p q a1 a2 b1 b2 c1 c2 d1 d2 e1 e2 f1 f2 : Int) (w : World) : (binOp .eql 82 (.agg #[.int .i64 i, .int .i64 a1, .int .i64 a2, .int .i64 b1, .int .i64 b2, .int .i64 c1, .int .i64 c2, .int .u8 m, .int .i64 p]) (.agg #[.int .i64 j, .int .i64 d1, .int .i64 d2, .int .i64 e1, .int .i64 e2, .int .i64 f1, .int .i64 f2, .int .u8 n, .int .i64 q])).run Try.prog w = .ok (.bool (eqSt ⟨i, ⟨a1, a2⟩, ⟨b1, b2⟩, ⟨c1, c2⟩, m, p⟩ ⟨j, ⟨d1, d2⟩, ⟨e1, e2⟩, ⟨f1, f2⟩, n, q⟩)) w := by
  have := run_eqIn_st 9997 ⟨i, ⟨a1, a2⟩, ⟨b1, b2⟩, ⟨c1, c2⟩, m, p⟩ ⟨j, ⟨d1, d2⟩, ⟨e1, e2⟩, ⟨f1, f2⟩, n, q⟩ w
  unfold vSt at this
  rw [run_eql_struct, this]; rfl
@[go_sem ↓] theorem run_neq_st (i j m n p q a1 a2 b1 b2 c1 c2 d1 d2 e1 e2 f1 f2 : Int) (w : World) : (binOp .neq 82 (.agg #[.int .i64 i, .int .i64 a1, .int .i64 a2, .int .i64 b1, .int .i64 b2, .int .i64 c1, .int .i64 c2, .int .u8 m, .int .i64 p]) (.agg #[.int .i64 j, .int .i64 d1, .int .i64 d2, .int .i64 e1, .int .i64 e2, .int .i64 f1, .int .i64 f2, .int .u8 n, .int .i64 q])).run Try.prog w = .ok (.bool (!eqSt ⟨i, ⟨a1, a2⟩, ⟨b1, b2⟩, ⟨c1, c2⟩, m, p⟩ ⟨j, ⟨d1, d2⟩, ⟨e1, e2⟩, ⟨f1, f2⟩, n, q⟩)) w := by
  have := run_eqIn_st 9997 ⟨i, ⟨a1, a2⟩, ⟨b1, b2⟩, ⟨c1, c2⟩, m, p⟩ ⟨j, ⟨d1, d2⟩, ⟨e1, e2⟩, ⟨f1, f2⟩, n, q⟩ w
  unfold vSt at this
  rw [run_neq_struct, this]; rfl
@[go_sem ↓] theorem run_eql_me (k l f g t u a1 a2 d1 d2 : Int) (w : World) : (binOp .eql 73 (.agg #[.int .u8 k, .int .i64 f, .int .i64 t, .int .i64 a1, .int .i64 a2]) (.agg #[.int .u8 l, .int .i64 g, .int .i64 u, .int .i64 d1, .int .i64 d2])).run Try.prog w = .ok (.bool (eqMe ⟨k, f, t, ⟨a1, a2⟩⟩ ⟨l, g, u, ⟨d1, d2⟩⟩)) w := by
  have := run_eqIn_me 9997 ⟨k, f, t, ⟨a1, a2⟩⟩ ⟨l, g, u, ⟨d1, d2⟩⟩ w
  unfold vMe at this
  rw [run_eql_struct, this]; rfl
@[go_sem ↓] theorem run_neq_me (k l f g t u a1 a2 d1 d2 : Int) (w : World) : (binOp .neq 73 (.agg #[.int .u8 k, .int .i64 f, .int .i64 t, .int .i64 a1, .int .i64 a2]) (.agg #[.int .u8 l, .int .i64 g, .int .i64 u, .int .i64 d1, .int .i64 d2])).run Try.prog w = .ok (.bool (!eqMe ⟨k, f, t, ⟨a1, a2⟩⟩ ⟨l, g, u, ⟨d1, d2⟩⟩)) w := by
  have := run_eqIn_me 9997 ⟨k, f, t, ⟨a1, a2⟩⟩ ⟨l, g, u, ⟨d1, d2⟩⟩ w
  unfold vMe at this
  rw [run_neq_struct, this]; rfl

/-! ### results that lie in memory -/
theorem load_sp {w : World} {g : Nat} {x y : Value} (hk : Blk w g #[x, y]) : (loadVar 34 ⟨g, 0, none⟩).run Try.prog w = .ok (.agg #[x, y]) w := by
  have h0 := hk.cell 0
  have h1 := hk.cell 1
  simp at h0 h1
  simp [go_sem, h0, h1]
theorem load_t {w : World} {g : Nat} {x : Value} (hk : Blk w g #[x]) : (loadVar 24 ⟨g, 0, none⟩).run Try.prog w = .ok (.agg #[x]) w := by
  have h0 := hk.cell 0
  simp at h0
  simp [go_sem, h0]
theorem results_sp {fn : Func} {t : Tmp} {tmps : Array Value} {w : World} {g : Nat} {x y : Value} (hr : fn.results = #[.cell t 34]) (hp : tmps.getD t undef = .pointer (some ⟨g, 0, none⟩)) (hk : Blk w g #[x, y]) :
    (results fn tmps).run Try.prog w = .ok (.agg #[x, y]) w := by
  simp [results, hr, -Array.getD_eq_getD_getElem?, hp, asAddr, load_sp hk]
theorem results_sp2 {fn : Func} {t u : Tmp} {tmps : Array Value} {w : World} {g g' : Nat} {x y x' y' : Value} (hr : fn.results = #[.cell t 34, .cell u 34]) (hp : tmps.getD t undef = .pointer (some ⟨g, 0, none⟩)) (hk : Blk w g #[x, y]) (hp' : tmps.getD u undef = .pointer (some ⟨g', 0, none⟩)) (hk' : Blk w g' #[x', y']) :
    (results fn tmps).run Try.prog w = .ok (.tuple #[.agg #[x, y], .agg #[x', y']]) w := by
  simp [results, hr, -Array.getD_eq_getD_getElem?, hp, hp', asAddr, load_sp hk, load_sp hk']
theorem results_sp3 {fn : Func} {t u s : Tmp} {tmps : Array Value} {w : World} {g g' : Nat} {x y x' y' : Value} (hr : fn.results = #[.cell t 34, .cell u 34, .tmp s]) (hp : tmps.getD t undef = .pointer (some ⟨g, 0, none⟩)) (hk : Blk w g #[x, y]) (hp' : tmps.getD u undef = .pointer (some ⟨g', 0, none⟩)) (hk' : Blk w g' #[x', y']) :
    (results fn tmps).run Try.prog w = .ok (.tuple #[.agg #[x, y], .agg #[x', y'], tmps.getD s undef]) w := by
  simp [results, hr, -Array.getD_eq_getD_getElem?, hp, hp', asAddr, load_sp hk, load_sp hk']
theorem results_spt {fn : Func} {t s : Tmp} {tmps : Array Value} {w : World} {g : Nat} {x y : Value} (hr : fn.results = #[.cell t 34, .tmp s]) (hp : tmps.getD t undef = .pointer (some ⟨g, 0, none⟩)) (hk : Blk w g #[x, y]) :
    (results fn tmps).run Try.prog w = .ok (.tuple #[.agg #[x, y], tmps.getD s undef]) w := by
  simp [results, hr, -Array.getD_eq_getD_getElem?, hp, asAddr, load_sp hk]
theorem results_t {fn : Func} {t : Tmp} {tmps : Array Value} {w : World} {g : Nat} {x : Value} (hr : fn.results = #[.cell t 24]) (hp : tmps.getD t undef = .pointer (some ⟨g, 0, none⟩)) (hk : Blk w g #[x]) :
    (results fn tmps).run Try.prog w = .ok (.agg #[x]) w := by
  simp [results, hr, -Array.getD_eq_getD_getElem?, hp, asAddr, load_t hk]
end Go.Proofs.Ytekjkaoibcfgfaa
