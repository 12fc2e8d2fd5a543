/- Small rules for the laws: stretches and measures compared; tell, of a number that is drawn. -/
import Derived.Test.YtekjkaoibcfgfaaY10
import Derived.Test.YtekjkaoibcfgfaaY6
namespace Go.Proofs.Ytekjkaoibcfgfaa
open Go.RowKit
set_option maxRecDepth 20000
set_option linter.unusedSimpArgs false
set_option linter.unusedVariables false

section
variable {w0 : World} {n : Nat} {d : List Deferred} {R : List (Nat × Value)} {H : List Ent} {Q : Exit → Act → World → Prop} {ops : Array Oper} {rest : List Oper} {o : Oper} {t : Tmp} {x y : Operand}
theorem u_nest (s u : St) {T' : TypeId} (hop : o.op = .binOp .neq 82 x y T') (hw : want R ops o = some true) (hd : o.dst = some t) (ht : Nat.blt t n = true) (hx : evR R x = some (vSt s)) (hy : evR R y = some (vSt u))
    (h1 : s = u → U w0 n d ((t, .bool false) :: R) H (wpList Try.prog ops Q rest)) (h2 : ¬ s = u → U w0 n d ((t, .bool true) :: R) H (wpList Try.prog ops Q rest)) : U w0 n d R H (wpList Try.prog ops Q (o :: rest)) :=
  u_eql hop hw hd ht hx hy (fun w => gd_st _ _ _ _ _ w) (fun w => run_neq_vst s u w) (fun h => h2 (by simpa [eqSt] using h)) (fun h => h1 (by simpa [eqSt] using h))
end
section
variable {P : Program} {w0 : World} {n : Nat} {d : List Deferred} {R : List (Nat × Value)} {H : List Ent} {Q : Exit → Act → World → Prop} {ops : Array Oper} {rest : List Oper} {o : Oper} {t : Tmp} {x y : Operand}
/-- what is left over, as a number from nought on -/
theorem u_remN {T T' : TypeId} {k : IntKind} {i j : Int} (J : Nat) (hop : o.op = .binOp .rem T x y T') (hw : want R ops o = some true) (hd : o.dst = some t) (ht : Nat.blt t n = true) (hx : evR R x = some (.int k i)) (hy : evR R y = some (.int k j)) (h0 : 0 ≤ i) (h1 : 0 < j) (hJ : i % j = (J : Int)) (h : U w0 n d ((t, .int k (J : Int)) :: R) H (wpList P ops Q rest)) : U w0 n d R H (wpList P ops Q (o :: rest)) := by
  rw [← hJ] at h
  exact u_rem hop hw hd ht hx hy h0 h1 h
theorem e_remN {T T' : TypeId} {k : IntKind} {i j : Int} (J : Nat) (hop : o.op = .binOp .rem T x y T') (hx : evR R x = some (.int k i)) (hy : evR R y = some (.int k j)) (h0 : 0 ≤ i) (h1 : 0 < j) (hJ : i % j = (J : Int)) : Ev P w0 n d R H o (.int k (J : Int)) := by
  rw [← hJ]
  exact e_rem hop hx hy h0 h1
end
theorem fitM_ok {n : Nat} {l : List Me} (h : msOk n l = true) : FitMs l := fun m hm => by
  have := (msOk_all h).1 m hm
  simp only [meOk, decide_eq_true_eq] at this
  omega
theorem tell_x (L F ch : List Int) (A B C : Option Addr) (ca cb cc many : Nat) (x : Int) (hx : x = (many : Int)) (w : World) (hA : SlAt encI 1 w A L) (hB : SlAt encI 1 w B F) (hC : SlAt encU 1 w C ch) (hca : L.length ≤ ca) (hcb : F.length ≤ cb) (hf : FitC ch) (hL : 1 ≤ L.length) (h12 : L.length ≤ 12) (hF : F.length = L.length) (bL : ∀ x ∈ L, 0 ≤ x ∧ x ≤ 30000) (bF : ∀ x ∈ F, 0 ≤ x ∧ x ≤ 30000) (hm : many ≤ 12) :
    NewSl encMe 5 (tells L F ch many) (fun v => v) Try.prog 46 [.slice A L.length ca, .slice B F.length cb, .slice C ch.length cc, .int .i64 x] w := by
  subst hx
  exact tell_any L F ch A B C ca cb cc many w hA hB hC hca hcb hf hL h12 hF bL bF hm
/-- what a valid track gives of its truths -/
theorem truth_facts {t : List St} {ch : List Int} (hv : valid t = true) : 1 ≤ (truthL t ch).length ∧ (truthL t ch).length ≤ 12 ∧ (truthF t ch).length = (truthL t ch).length ∧ (∀ x ∈ truthL t ch, 0 ≤ x ∧ x ≤ 30000) ∧ (∀ x ∈ truthF t ch, 0 ≤ x ∧ x ≤ 30000) := by
  have hl := valid_len hv
  have ho := valid_okay hv
  refine ⟨by rw [truthL_len]; omega, by rw [truthL_len]; omega, by rw [truthF_len, truthL_len], (truthL_in ho).bd (okSps_longs ho), (truthF_in ho).bd (okSps_falls ho)⟩
theorem readyB_ok {t : List St} (h : readyB t = true) : valid t = true := by
  simp only [readyB, Bool.and_eq_true] at h; exact h.2
theorem row_foot2 {α : Type} {enc : α → List Value} {kk e base m c : Nat} {A : Option Addr} {xs : List α} {H H' : List Ent} {w : World} (ho : Own base w H) (ht : Take H (.row enc kk e (.slice A m c) xs) H') [ei : EncI enc kk] : ∀ b o, A = some ⟨b, o, none⟩ → b < w.heap.size := foot_sl (ho.row_sl ht) (Take.here _ _)
theorem get_getD {l : List Int} {i : Nat} (h : i < l.length) : l[i]? = some (l.getD i 0) := by simp [h]
end Go.Proofs.Ytekjkaoibcfgfaa
