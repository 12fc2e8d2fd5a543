/- Arguments as they are read: measures. -/
import Derived.Test.YtekjkaoibcfgfaaTop
import Derived.Test.YtekjkaoibcfgfaaX3
import Derived.Test.YtekjkaoibcfgfaaY9
namespace Go.Proofs.Ytekjkaoibcfgfaa
open Go.ChangeShapes Go.WideShapes Go.ChangeAt Go.RowKit
set_option linter.unusedSimpArgs false
set_option linter.unusedVariables false

section
variable {H : Type} {enc : TypeId × Value → H} {w : World} {sp : Nat → Bool} {held : Bool} {n : Nat} {cs : List Value} {x : DataW H × List MemPlace}
theorem rd_me (h : DataW.trod enc Try.prog w 0 sp held n 73 cs = some x) : ∃ s : Me, cs = encMe s ∧ FitMe s := by
  have hl := rd_len Try.underlying73 h (k := 5) (by kernel_rfl)
  obtain ⟨n0, y0, h0⟩ := rd_field Try.underlying73 h (j := 0) rfl rfl (k := 1) (by kernel_rfl)
  obtain ⟨n1, y1, h1⟩ := rd_field Try.underlying73 h (j := 1) rfl rfl (k := 1) (by kernel_rfl)
  obtain ⟨n2, y2, h2⟩ := rd_field Try.underlying73 h (j := 2) rfl rfl (k := 1) (by kernel_rfl)
  obtain ⟨n3, y3, h3⟩ := rd_field Try.underlying73 h (j := 3) rfl rfl (k := 2) (by kernel_rfl)
  obtain ⟨a, e0, f0⟩ := rd_u8 Try.underlying5 h0
  obtain ⟨b, e1, f1⟩ := rd_int Try.underlying3 h1
  obtain ⟨c, e2, f2⟩ := rd_int Try.underlying3 h2
  obtain ⟨d, e3, f3⟩ := rd_sp h3
  match cs, hl with
  | [c0, c1, c2, c3, c4], _ =>
    simp [encSp] at e0 e1 e2 e3
    exact ⟨⟨a, b, c, d⟩, by simp [encMe, e0, e1, e2, e3], f0, f1, f2, f3⟩
set_option maxRecDepth 20000 in
/-- an argument that is a list of measures -/
theorem open_meas {base : Nat} {r : Reach} {v : Value} {dd : DataW H} {p : List MemPlace} (hv : Value.okWide Try.prog w r base 67 v) (h : DataW.Trod enc Try.prog w 0 (fun _ => true) held 67 v dd p) :
    ∃ (A : Option Addr) (l : List Me) (c : Nat), v = .slice A l.length c ∧ SlAt encMe 5 w A l ∧ (∀ m ∈ l, FitMe m) ∧ l.length ≤ c ∧ c ≤ maxLen := by
  obtain ⟨a, len, cap, rfl⟩ := okWide_slice Try.underlying67 hv
  obtain ⟨fuel, hf⟩ := h
  obtain ⟨A, l, c, e0, hs, hfit, h1, h2⟩ := rd_slice (en := encMe) (k := 5) (ok := FitMe) Try.underlying67 (by kernel_rfl) (by omega) (fun _ => rfl) (fun _ _ _ h => rd_me h) hf
  simp [Value.cells] at e0
  obtain ⟨e1, e2, e3⟩ := e0
  exact ⟨A, l, c, by rw [e1, e2, e3], hs, hfit, h1, h2⟩
set_option maxRecDepth 20000 in
theorem open_me {base : Nat} {r : Reach} {v : Value} {dd : DataW H} {p : List MemPlace} (hv : Value.okWide Try.prog w r base 73 v) (h : DataW.Trod enc Try.prog w 0 (fun _ => true) held 73 v dd p) : ∃ s : Me, v = vMe s ∧ FitMe s := by
  obtain ⟨cs, rfl, _⟩ := okWide_struct Try.underlying73 hv
  obtain ⟨fuel, hf⟩ := h
  obtain ⟨s, e, f⟩ := rd_me hf
  refine ⟨s, ?_, f⟩
  obtain ⟨l⟩ := cs
  simp [Value.cells] at e
  rw [e]; rfl
/-- where a slice among the arguments lies -/
theorem foot_arg {P : Program} {base : Nat} {r : Reach} {T e : TypeId} {A : Option Addr} {n c : Nat} (ht : P.underlying T = some (.slice e)) (h : Value.okWide P w r base T (.slice A n c)) : ∀ b o, A = some ⟨b, o, none⟩ → b < w.heap.size := by
  rintro b o rfl
  simp only [Value.okWide, ht, Cell.okWide, Cell.ok] at h
  obtain ⟨_, _, _, _, row, cells, hs, _⟩ := h
  unfold World.shape? at hs
  by_cases hb : b < w.heap.size
  · exact hb
  · rw [Array.getElem?_eq_none (by show w.heap.size ≤ b; omega)] at hs
    simp at hs
theorem fitA {t : List St} (h : ∀ s ∈ t, FitSt s) : FitT t := fun s hs => (h s hs).2.2.2.2.1
theorem fitM {l : List Me} (h : ∀ m ∈ l, FitMe m) : FitMs l := fun m hm => (h m hm).1
end
end Go.Proofs.Ytekjkaoibcfgfaa
/- Arguments as they are read: choices, small numbers. -/
namespace Go.Proofs.Ytekjkaoibcfgfaa
open Go.ChangeShapes Go.WideShapes Go.ChangeAt Go.RowKit
set_option linter.unusedSimpArgs false
set_option linter.unusedVariables false

section
variable {H : Type} {enc : TypeId × Value → H} {w : World} {held : Bool}
set_option maxRecDepth 20000 in
/-- an argument that is a list of choices -/
theorem open_choices {base : Nat} {r : Reach} {v : Value} {dd : DataW H} {p : List MemPlace} (hv : Value.okWide Try.prog w r base 75 v) (h : DataW.Trod enc Try.prog w 0 (fun _ => true) held 75 v dd p) :
    ∃ (A : Option Addr) (l : List Int) (c : Nat), v = .slice A l.length c ∧ SlAt encU 1 w A l ∧ FitC l ∧ l.length ≤ c ∧ c ≤ maxLen := by
  obtain ⟨a, len, cap, rfl⟩ := okWide_slice Try.underlying75 hv
  obtain ⟨fuel, hf⟩ := h
  obtain ⟨A, l, c, e0, hs, hfit, h1, h2⟩ := rd_slice (en := encU) (k := 1) (ok := fun x => 0 ≤ x ∧ x ≤ 4294967295) Try.underlying75 (by kernel_rfl) (by omega) (fun _ => rfl) (fun _ _ _ h => rd_u32 Try.underlying88 h) hf
  simp [Value.cells] at e0
  obtain ⟨e1, e2, e3⟩ := e0
  exact ⟨A, l, c, by rw [e1, e2, e3], hs, hfit, h1, h2⟩
end
end Go.Proofs.Ytekjkaoibcfgfaa
