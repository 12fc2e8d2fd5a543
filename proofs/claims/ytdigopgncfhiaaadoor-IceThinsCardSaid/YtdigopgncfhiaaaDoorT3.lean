/- Covers and plans as they are read; the table of limits. -/
import Derived.Test.YtdigopgncfhiaaaDoorTop
import Derived.Test.YtdigopgncfhiaaaDoorJ20
import Derived.LaidMore
namespace Go.Proofs.YtdigopgncfhiaaaDoor
open Go.ChangeShapes Go.WideShapes Go.ChangeAt Go.RowKit
set_option linter.unusedSimpArgs false
set_option linter.unusedVariables false
section
variable {H : Type} {enc : TypeId × Value → H} {w : World} {sp : Nat → Bool} {held : Bool} {n : Nat} {cs : List Value} {x : DataW H × List MemPlace}
theorem rd_bed (h : DataW.trod enc Tryd.prog w 0 sp held n 117 cs = some x) : ∃ s : Bed, cs = encBed s ∧ True := by
  have hl := rd_len Tryd.underlying117 h (k := 3) (by kernel_rfl)
  obtain ⟨n0, y0, h0⟩ := rd_field Tryd.underlying117 h (j := 0) rfl rfl (k := 2) (by kernel_rfl)
  obtain ⟨n1, y1, h1⟩ := rd_field Tryd.underlying117 h (j := 1) rfl rfl (k := 1) (by kernel_rfl)
  obtain ⟨a, e0, f0⟩ := rd_sp h0
  obtain ⟨b, e1, f1⟩ := rd_int Tryd.underlying3 h1
  match cs, hl with
  | [c0, c1, c2], _ =>
    simp [encSp] at e0 e1
    exact ⟨⟨a, b⟩, by simp [encBed, e0, e1], trivial⟩
theorem rd_hour (h : DataW.trod enc Tryd.prog w 0 sp held n 120 cs = some x) : ∃ s : Hour, cs = encHour s ∧ True := by
  have hl := rd_len Tryd.underlying120 h (k := 5) (by kernel_rfl)
  obtain ⟨n0, y0, h0⟩ := rd_field Tryd.underlying120 h (j := 0) rfl rfl (k := 2) (by kernel_rfl)
  obtain ⟨n1, y1, h1⟩ := rd_field Tryd.underlying120 h (j := 1) rfl rfl (k := 1) (by kernel_rfl)
  obtain ⟨n2, y2, h2⟩ := rd_field Tryd.underlying120 h (j := 2) rfl rfl (k := 1) (by kernel_rfl)
  obtain ⟨n3, y3, h3⟩ := rd_field Tryd.underlying120 h (j := 3) rfl rfl (k := 1) (by kernel_rfl)
  obtain ⟨a, e0, f0⟩ := rd_sp h0
  obtain ⟨b, e1, f1⟩ := rd_int Tryd.underlying3 h1
  obtain ⟨c, e2, f2⟩ := rd_int Tryd.underlying3 h2
  obtain ⟨d, e3, _⟩ := DataW.trod_bool Tryd.underlying4 h3
  match cs, hl with
  | [c0, c1, c2, c3, c4], _ =>
    simp [encSp] at e0 e1 e2 e3
    exact ⟨⟨a, b, c, d⟩, by simp [encHour, e0, e1, e2, e3], trivial⟩
set_option maxRecDepth 20000 in
/-- an argument that is a cover -/
theorem open_cov {base : Nat} {r : Reach} {v : Value} {dd : DataW H} {p : List MemPlace} (hv : Value.okWide Tryd.prog w r base 30 v) (h : DataW.Trod enc Tryd.prog w 0 (fun _ => true) held 30 v dd p) :
    ∃ (c : Cov) (A : Option Addr) (ca : Nat) (B : Option Addr) (cb : Nat) (C : Option Addr) (cc : Nat), v = vCov c A ca B cb C cc ∧ CovAt w c A B C ∧ FitT c.t := by
  obtain ⟨cs, rfl, _⟩ := okWide_struct Tryd.underlying30 hv
  obtain ⟨fuel, hf⟩ := h
  have hl := rd_len Tryd.underlying30 hf (k := 10) (by kernel_rfl)
  obtain ⟨n0, y0, h0⟩ := rd_field Tryd.underlying30 hf (j := 0) rfl rfl (k := 1) (by kernel_rfl)
  obtain ⟨n1, y1, h1⟩ := rd_field Tryd.underlying30 hf (j := 1) rfl rfl (k := 1) (by kernel_rfl)
  obtain ⟨n2, y2, h2⟩ := rd_field Tryd.underlying30 hf (j := 2) rfl rfl (k := 1) (by kernel_rfl)
  obtain ⟨n3, y3, h3⟩ := rd_field Tryd.underlying30 hf (j := 3) rfl rfl (k := 2) (by kernel_rfl)
  obtain ⟨n4, y4, h4⟩ := rd_field Tryd.underlying30 hf (j := 4) rfl rfl (k := 2) (by kernel_rfl)
  obtain ⟨n5, y5, h5⟩ := rd_field Tryd.underlying30 hf (j := 5) rfl rfl (k := 1) (by kernel_rfl)
  obtain ⟨n6, y6, h6⟩ := rd_field Tryd.underlying30 hf (j := 6) rfl rfl (k := 1) (by kernel_rfl)
  obtain ⟨n7, y7, h7⟩ := rd_field Tryd.underlying30 hf (j := 7) rfl rfl (k := 1) (by kernel_rfl)
  obtain ⟨n8, y8, h8⟩ := rd_field Tryd.underlying24 h0 (j := 0) rfl rfl (k := 1) (by kernel_rfl)
  obtain ⟨A, t, ca, e0, s0, f0, _, _⟩ := rd_slice (en := encSt) (k := 9) (ok := FitSt) Tryd.underlying22 (by kernel_rfl) (by omega) (fun _ => rfl) (fun _ _ _ h => rd_st h) h8
  obtain ⟨B, be, cb, e1, s1, _, _, _⟩ := rd_slice (en := encBed) (k := 3) (ok := fun _ => True) Tryd.underlying25 (by kernel_rfl) (by omega) (fun _ => rfl) (fun _ _ _ h => rd_bed h) h1
  obtain ⟨C, ho, cc, e2, s2, _, _, _⟩ := rd_slice (en := encHour) (k := 5) (ok := fun _ => True) Tryd.underlying26 (by kernel_rfl) (by omega) (fun _ => rfl) (fun _ _ _ h => rd_hour h) h2
  obtain ⟨we, e3, _⟩ := rd_sp h3
  obtain ⟨la, e4, _⟩ := rd_sp h4
  obtain ⟨ra, e5, _⟩ := rd_int Tryd.underlying3 h5
  obtain ⟨li, e6, _⟩ := rd_int Tryd.underlying3 h6
  obtain ⟨ba, e7, _⟩ := rd_int Tryd.underlying3 h7
  refine ⟨⟨t, be, ho, we, la, ra, li, ba⟩, A, ca, B, cb, C, cc, ?_, ⟨s0, s1, s2⟩, fun s hs => (f0 s hs).2.2.2.2.1⟩
  obtain ⟨l⟩ := cs
  match l, hl with
  | [c0, c1, c2, c3, c4, c5, c6, c7, c8, c9], _ =>
    simp [Value.cells, encSp] at e0 e1 e2 e3 e4 e5 e6 e7
    simp [vCov, cellsCov, e0, e1, e2, e3, e4, e5, e6, e7]
set_option maxRecDepth 20000 in
/-- an argument that is a plan -/
theorem open_plan {base : Nat} {r : Reach} {v : Value} {dd : DataW H} {p : List MemPlace} (hv : Value.okWide Tryd.prog w r base 39 v) (h : DataW.Trod enc Tryd.prog w 0 (fun _ => true) held 39 v dd p) :
    ∃ (P : Option Addr) (pl : List Sli) (c : Nat), v = .slice P pl.length c ∧ PlanAt w P pl ∧ pl.length ≤ c ∧ c ≤ maxLen := by
  obtain ⟨a, len, cap, rfl⟩ := okWide_slice Tryd.underlying39 hv
  obtain ⟨fuel, hf⟩ := h
  obtain ⟨A, l, c, e0, hs, hfit, h1, h2⟩ := rd_slice (en := encSli) (k := 1) (ok := fun s => SlAt encI 1 w s.A s.xs) Tryd.underlying39 (by kernel_rfl) (by omega) (fun _ => rfl) (fun n cs x h => by
    obtain ⟨A, l, c, e, hs, _, _, _⟩ := rd_slice (en := encI) (k := 1) (ok := fun _ => True) Tryd.underlying33 (by kernel_rfl) (by omega) (fun _ => rfl) (fun _ _ _ h => by
      obtain ⟨v, e, _⟩ := rd_int Tryd.underlying3 h
      exact ⟨v, by rw [e]; rfl, trivial⟩) h
    exact ⟨⟨A, l, c⟩, by rw [e]; rfl, hs⟩) hf
  simp [Value.cells] at e0
  obtain ⟨e1, e2, e3⟩ := e0
  exact ⟨A, l, c, by rw [e1, e2, e3], ⟨hs, hfit⟩, h1, h2⟩
end
theorem gLimits : Tryd.prog.globalNamed "kreisel/ice.limits" = some 0 := by kernel_rfl
theorem tLimits : (Tryd.prog.globals[0]?).map (·.type) = some 193 := by kernel_rfl
set_option maxRecDepth 100000 in
/-- what the table holds -/
theorem of_limits {W : World} (h : laidMetH Tryd.prog [("kreisel/ice.limits", Rows.laid_kreisel_ice_limits)] W) : InC W 0 0 limC := by
  obtain ⟨g, t, cs, fuel, p, hg, ht, hv, hd⟩ := h.funcs (List.mem_singleton.2 rfl)
  obtain rfl := Option.some.inj (gLimits.symm.trans hg)
  obtain rfl := Option.some.inj (tLimits.symm.trans ht)
  have hd' : DataW.trod (funcToken Tryd.prog) Tryd.prog W 0 (fun _ => true) true fuel 193 cs.toList = some (.agg [.agg [.held [107, 114, 101, 105, 115, 101, 108, 47, 105, 99, 101, 46, 108, 105, 109, 105, 116, 115, 36, 49], .held [107, 114, 101, 105, 115, 101, 108, 47, 105, 99, 101, 46, 108, 105, 109, 105, 116, 115, 36, 50]], .agg [.held [107, 114, 101, 105, 115, 101, 108, 47, 105, 99, 101, 46, 108, 105, 109, 105, 116, 115, 36, 51], .held [107, 114, 101, 105, 115, 101, 108, 47, 105, 99, 101, 46, 108, 105, 109, 105, 116, 115, 36, 52]]], p) := hd
  have c192 : Tryd.prog.cellsOf 192 = 2 := by kernel_rfl
  have c193 : Tryd.prog.cellsOf 193 = 4 := by kernel_rfl
  have c142 : Tryd.prog.cellsOf 142 = 1 := by kernel_rfl
  have c68 : Tryd.prog.cellsOf 68 = 1 := by kernel_rfl
  obtain ⟨xs, m, rfl, ex, hlen, hl, hel⟩ := DataW.trod_array Tryd.underlying193 hd'
  rw [c193] at hlen
  have hcell := fun j => World.var?_cell hg hv j
  obtain ⟨l⟩ := cs
  simp only at hlen hel
  match xs, hl with
  | [x0, x1], _ =>
    match l, hlen with
    | [a0, a1, a2, a3], _ =>
      have h0 := hel 0 (by omega)
      have h1 := hel 1 (by omega)
      rw [c192] at h0 h1
      simp only [Nat.zero_mul, Nat.one_mul, List.drop_zero, List.take_succ_cons, List.take_zero, List.drop_succ_cons, List.getElem?_cons_zero, List.getElem?_cons_succ] at h0 h1
      simp only [List.map_cons, List.map_nil, Prod.mk.injEq, DataW.agg.injEq, List.cons.injEq, and_true] at ex
      obtain ⟨⟨e0, e1⟩, _⟩ := ex
      obtain ⟨x0a, x0b⟩ := x0
      obtain ⟨x1a, x1b⟩ := x1
      simp only at e0 e1
      subst e0 e1
      obtain ⟨ys, n0, _, ey, _, hy, hf⟩ := DataW.trod_struct Tryd.underlying192 h0
      obtain ⟨zs, n1, _, ez, _, hz, hk⟩ := DataW.trod_struct Tryd.underlying192 h1
      match ys, hy, zs, hz with
      | [y0, y1], _, [z0, z1], _ =>
        have f0 := hf 0 _ rfl
        have f1 := hf 1 _ rfl
        have k0 := hk 0 _ rfl
        have k1 := hk 1 _ rfl
        simp only [c142, c68, List.drop_zero, List.take_succ_cons, List.take_zero, List.drop_succ_cons, List.getElem?_cons_zero, List.getElem?_cons_succ] at f0 f1 k0 k1
        simp only [List.map_cons, List.map_nil, Prod.mk.injEq, DataW.agg.injEq, List.cons.injEq, and_true] at ey ez
        obtain ⟨⟨ey0, ey1⟩, _⟩ := ey
        obtain ⟨⟨ez0, ez1⟩, _⟩ := ez
        obtain ⟨y0a, y0b⟩ := y0
        obtain ⟨y1a, y1b⟩ := y1
        obtain ⟨z0a, z0b⟩ := z0
        obtain ⟨z1a, z1b⟩ := z1
        simp only at ey0 ey1 ez0 ez1
        subst ey0 ey1 ez0 ez1
        obtain rfl := func_of_trod (f0 := 164) Tryd.underlying142 (by kernel_rfl) f0
        obtain rfl := func_of_trod (f0 := 165) Tryd.underlying68 (by kernel_rfl) f1
        obtain rfl := func_of_trod (f0 := 166) Tryd.underlying142 (by kernel_rfl) k0
        obtain rfl := func_of_trod (f0 := 167) Tryd.underlying68 (by kernel_rfl) k1
        refine ⟨fun j v hj => ?_⟩
        rw [Nat.zero_add, hcell j]
        simpa [limC] using hj
end Go.Proofs.YtdigopgncfhiaaaDoor
