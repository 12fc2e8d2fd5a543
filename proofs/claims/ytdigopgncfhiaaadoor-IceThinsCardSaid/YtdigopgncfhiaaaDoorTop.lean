/- From the arguments as they are read to the walk's facts; from the walk's end to the row. -/
import Derived.Test.YtdigopgncfhiaaaDoorRows
import Derived.Test.YtdigopgncfhiaaaDoorBase
import Derived.ProofKit
import Derived.OpenShut
import Derived.Carry
import Derived.Deep.Slices
import Derived.Deep.Fields
namespace Go.Proofs.YtdigopgncfhiaaaDoor
open Go.ChangeShapes Go.WideShapes Go.ChangeAt Go.RowKit
set_option linter.unusedSimpArgs false
set_option linter.unusedVariables false

theorem ownKnobs : ownKnob Tryd.prog.godebug = none := by kernel_rfl
theorem laidOuts : laidOutB Tryd.prog = true := by kernel_rfl

section
variable {H : Type} {enc : TypeId × Value → H} {P : Program} {w w' : World} {sp sp' : Nat → Bool}

/-- the arguments read as they did -/
theorem trodAll_stays (hl : laidOutB P = true) : ∀ {ts : List TypeId} {vs : List Value} {ds : List (DataW H)} {ps : List MemPlace}, (∀ t ∈ ts, P.readableRec t = true ∧ t < P.types.size) → DataW.TrodAll enc P w 0 (fun _ => true) true ts vs ds ps →
    (∀ p ∈ ps, w.sameAt w' p) → (∀ p ∈ ps, sp' p.block = true) → DataW.TrodAll enc P w' 0 sp' true ts vs ds ps
  | [], vs, ds, ps, _, h, _, _ => by
    obtain ⟨rfl, rfl, rfl⟩ := trodAll_nil h
    exact trodAll_mk0
  | t :: ts, vs, ds, ps, hr, h, h1, h2 => by
    obtain ⟨v, vs', d, ds', p, q, rfl, rfl, rfl, hv, hrest⟩ := trodAll_cons h
    have ht := hr t (by simp)
    exact trodAll_cons_mk (WideElems.Trod_stays hl ht.1 ht.2 hv (fun x hx => h1 x (by simp [hx])) (fun x hx => h2 x (by simp [hx])))
      (trodAll_stays hl (fun u hu => hr u (by simp [hu])) hrest (fun x hx => h1 x (by simp [hx])) (fun x hx => h2 x (by simp [hx])))

/-- The end of a law: it returned true, and what was there is as it was. -/
theorem law_post (hlaid : laidOutB P = true) {f : Func} {s : ChangeSpec} {tb : TypeId} {args : Array Value} {ds gs : List (DataW H)} {before : List MemPlace} (hW : DataW.Whole enc P f.params.toList s.vars false w args.toList ds gs before)
    (hv : s.vars = []) (hs : s.fn H (ds ++ gs) = { results := [.lit (.bool true)], args := ds }) (hr : f.resultTypes = #[tb]) (hb : P.underlying tb = some .bool) (hp : ∀ t ∈ f.params.toList, P.readableRec t = true ∧ t < P.types.size) (hB : Below w.heap.size w w') :
    s.post enc P f false true false false w args (.bool true) w' := by
  have hlt : ∀ p ∈ before, p.block < w.heap.size := fun p hp => hW.lt p hp
  have hW' := hW
  obtain ⟨pa, pv, hA, hV, rfl, hfz, hn⟩ := hW
  rw [hv] at hV
  obtain ⟨rfl, rfl⟩ := trodVars_none hV
  simp only [List.append_nil] at hW' hlt hfz hn hs
  have hargs : ∀ sp' : Nat → Bool, (∀ p ∈ pa, sp' p.block = true) → DataW.TrodAll enc P w' 0 sp' true f.params.toList args.toList ds pa := fun sp' h => trodAll_stays hlaid hp hA (fun p hp => hB.same (hlt p hp)) h
  have hres : ∀ (b : Nat) (sp' : Nat → Bool) (hd : Bool), DataW.TrodAll enc P w' b sp' hd f.resultTypes.toList ((Value.bool true).resultList f.resultTypes.size) [.lit (.bool true)] [] := fun b sp' hd => by
    rw [hr]
    exact trodAll_mk1 (shut_bool hb true)
  have hold : ∀ p ∈ pa, (fun b => decide (b < w.heap.size)) p.block = true := fun p hp => by simpa using hlt p hp
  refine ⟨ds, [], pa, [], pa, [], hW', ?_, ?_, ?_, World.keptBut_mono (fun p hp => ⟨hp, Or.inr (Or.inl hp)⟩) (hB.frame (· ∈ pa)), fun h => by cases h⟩
  · rw [List.append_nil, hs]; exact hres _ _ _
  · rw [List.append_nil, hs]; exact hargs _ hold
  · rw [List.append_nil, hs, hv]; exact rfl
end

/-! ### what is read -/
section
variable {H : Type} {enc : TypeId × Value → H} {w : World} {sp : Nat → Bool} {held : Bool} {n : Nat} {cs : List Value} {x : DataW H × List MemPlace}

def In64 (v : Int) : Prop := -9223372036854775808 ≤ v ∧ v ≤ 9223372036854775807
theorem in64 {v : Int} (h : (Lit.int .i64 v).wf = true) : In64 v := by
  simp [Lit.wf, IntKind.min, IntKind.max, IntKind.signed, IntKind.bits] at h
  unfold In64; omega
theorem inU8 {v : Int} (h : (Lit.int .u8 v).wf = true) : 0 ≤ v ∧ v ≤ 255 := by
  simp [Lit.wf, IntKind.min, IntKind.max, IntKind.signed, IntKind.bits] at h
  omega
theorem inU32 {v : Int} (h : (Lit.int .u32 v).wf = true) : 0 ≤ v ∧ v ≤ 4294967295 := by
  simp [Lit.wf, IntKind.min, IntKind.max, IntKind.signed, IntKind.bits] at h
  omega
theorem rd_int {T : TypeId} (hT : Tryd.prog.underlying T = some (.int .i64)) (h : DataW.trod enc Tryd.prog w 0 sp held n T cs = some x) : ∃ v, cs = [.int .i64 v] ∧ In64 v := by
  obtain ⟨v, h1, _, h2⟩ := DataW.trod_int hT h
  exact ⟨v, h1, in64 h2⟩
theorem rd_u8 {T : TypeId} (hT : Tryd.prog.underlying T = some (.int .u8)) (h : DataW.trod enc Tryd.prog w 0 sp held n T cs = some x) : ∃ v, cs = [.int .u8 v] ∧ 0 ≤ v ∧ v ≤ 255 := by
  obtain ⟨v, h1, _, h2⟩ := DataW.trod_int hT h
  exact ⟨v, h1, inU8 h2⟩
theorem rd_u32 {T : TypeId} (hT : Tryd.prog.underlying T = some (.int .u32)) (h : DataW.trod enc Tryd.prog w 0 sp held n T cs = some x) : ∃ v, cs = [.int .u32 v] ∧ 0 ≤ v ∧ v ≤ 4294967295 := by
  obtain ⟨v, h1, _, h2⟩ := DataW.trod_int hT h
  exact ⟨v, h1, inU32 h2⟩
/-- a field of a struct that is read -/
theorem rd_field {P : Program} {T : TypeId} {fs : Array Field} (hT : P.underlying T = some (.struct fs)) (h : DataW.trod enc P w 0 sp held n T cs = some x) {j : Nat} {f : Field} (hj : fs[j]? = some f) {off k : Nat} (ho : f.offset = off) (hk : P.cellsOf f.type = k) :
    ∃ n' y, DataW.trod enc P w 0 sp held n' f.type ((cs.drop off).take k) = some y := by
  obtain ⟨xs, n', _, _, _, hl, hf⟩ := DataW.trod_struct hT h
  have := hf j f hj
  rw [ho, hk] at this
  have hlt : j < xs.length := by rw [hl]; exact (Array.getElem?_eq_some_iff.1 hj).1
  rw [List.getElem?_eq_getElem hlt] at this
  exact ⟨n', _, this⟩
theorem rd_len {P : Program} {T : TypeId} {fs : Array Field} (hT : P.underlying T = some (.struct fs)) (h : DataW.trod enc P w 0 sp held n T cs = some x) {k : Nat} (hk : P.cellsOf T = k) : cs.length = k := by
  obtain ⟨xs, n', _, _, hc, _⟩ := DataW.trod_struct hT h
  rw [hc, hk]

def FitSp (s : Sp) : Prop := In64 s.lo ∧ In64 s.hi
def FitSt (s : St) : Prop := In64 s.id ∧ FitSp s.long ∧ FitSp s.fall ∧ FitSp s.radius ∧ (0 ≤ s.side ∧ s.side ≤ 255) ∧ In64 s.wall
def FitMe (m : Me) : Prop := (0 ≤ m.kind ∧ m.kind ≤ 255) ∧ In64 m.frm ∧ In64 m.to ∧ FitSp m.value
def FitSpot (s : Spot) : Prop := In64 s.st ∧ FitSp s.off

theorem rd_sp (h : DataW.trod enc Tryd.prog w 0 sp held n 28 cs = some x) : ∃ s : Sp, cs = encSp s ∧ FitSp s := by
  have hl := rd_len Tryd.underlying28 h (k := 2) (by kernel_rfl)
  obtain ⟨n0, y0, h0⟩ := rd_field Tryd.underlying28 h (j := 0) rfl rfl (k := 1) (by kernel_rfl)
  obtain ⟨n1, y1, h1⟩ := rd_field Tryd.underlying28 h (j := 1) rfl rfl (k := 1) (by kernel_rfl)
  obtain ⟨a, e0, f0⟩ := rd_int Tryd.underlying3 h0
  obtain ⟨b, e1, f1⟩ := rd_int Tryd.underlying3 h1
  match cs, hl with
  | [c0, c1], _ =>
    simp at e0 e1
    exact ⟨⟨a, b⟩, by simp [encSp, e0, e1], f0, f1⟩
theorem rd_st (h : DataW.trod enc Tryd.prog w 0 sp held n 114 cs = some x) : ∃ s : St, cs = encSt s ∧ FitSt s := by
  have hl := rd_len Tryd.underlying114 h (k := 9) (by kernel_rfl)
  obtain ⟨n0, y0, h0⟩ := rd_field Tryd.underlying114 h (j := 0) rfl rfl (k := 1) (by kernel_rfl)
  obtain ⟨n1, y1, h1⟩ := rd_field Tryd.underlying114 h (j := 1) rfl rfl (k := 2) (by kernel_rfl)
  obtain ⟨n2, y2, h2⟩ := rd_field Tryd.underlying114 h (j := 2) rfl rfl (k := 2) (by kernel_rfl)
  obtain ⟨n3, y3, h3⟩ := rd_field Tryd.underlying114 h (j := 3) rfl rfl (k := 2) (by kernel_rfl)
  obtain ⟨n4, y4, h4⟩ := rd_field Tryd.underlying114 h (j := 4) rfl rfl (k := 1) (by kernel_rfl)
  obtain ⟨n5, y5, h5⟩ := rd_field Tryd.underlying114 h (j := 5) rfl rfl (k := 1) (by kernel_rfl)
  obtain ⟨a, e0, f0⟩ := rd_int Tryd.underlying3 h0
  obtain ⟨b, e1, f1⟩ := rd_sp h1
  obtain ⟨c, e2, f2⟩ := rd_sp h2
  obtain ⟨d, e3, f3⟩ := rd_sp h3
  obtain ⟨e, e4, f4⟩ := rd_u8 Tryd.underlying5 h4
  obtain ⟨f, e5, f5⟩ := rd_int Tryd.underlying3 h5
  match cs, hl with
  | [c0, c1, c2, c3, c4, c5, c6, c7, c8], _ =>
    simp [encSp] at e0 e1 e2 e3 e4 e5
    exact ⟨⟨a, b, c, d, e, f⟩, by simp [encSt, e0, e1, e2, e3, e4, e5], f0, f1, f2, f3, f4, f5⟩

/-- a slice that is read -/
theorem rd_slice {α : Type} {en : α → List Value} {k : Nat} {ok : α → Prop} {T e : TypeId} (hT : Tryd.prog.underlying T = some (.slice e)) (hk : Tryd.prog.cellsOf e = k) (hk0 : 0 < k) (hen : ∀ z, (en z).length = k)
    (hel : ∀ n cs x, DataW.trod enc Tryd.prog w 0 (fun _ => true) held n e cs = some x → ∃ z : α, cs = en z ∧ ok z) (h : DataW.trod enc Tryd.prog w 0 (fun _ => true) held n T cs = some x) :
    ∃ (A : Option Addr) (xs : List α) (c : Nat), cs = [.slice A xs.length c] ∧ SlAt en k w A xs ∧ (∀ z ∈ xs, ok z) ∧ xs.length ≤ c ∧ c ≤ maxLen := by
  rcases Go.Deep.open_slice hT h with ⟨rfl, _⟩ | ⟨a, len, cap, m, n', D, Pl, rfl, _, hlc, hcm, hm, _, hi⟩
  · exact ⟨none, [], 0, rfl, SlAt.nil, by simp, by simp, by simp⟩
  · simp only [if_true] at hm
    subst hm
    have hz : ∀ i, i < len → ∃ z : α, ok z ∧ a.spot = none ∧ ∀ j v, (en z)[j]? = some v → w.cell? ⟨a.block, a.off + i * k + j, none⟩ = some v := by
      intro i hil
      obtain ⟨cs', hc, ht⟩ := hi i (by omega)
      obtain ⟨z, rfl, hok⟩ := hel _ _ _ ht
      rw [hk] at hc
      obtain ⟨_, _, hcell⟩ := World.cells?_some hc
      have hc0 := hcell 0 hk0
      have hl0 := hen z
      have hs : a.spot = none := by
        have h1 : ∃ v, w.cell? ((a.add (i * k)).add 0) = some v := by
          rw [hc0]; exact ⟨(en z)[0]'(by omega), List.getElem?_eq_getElem (by omega)⟩
        obtain ⟨v, hv⟩ := h1
        simp only [Addr.add, if_true] at hv
        by_cases h0 : i * k = 0
        · rw [if_pos h0] at hv
          cases hsp : a.spot with
          | none => rfl
          | some s => simp [World.cell?, hsp] at hv; split at hv <;> cases hv
        · -- a later one: the first one tells
          obtain ⟨cs0, hc', ht'⟩ := hi 0 (by omega)
          rw [hk] at hc'
          obtain ⟨z0, rfl, _⟩ := hel _ _ _ ht'
          obtain ⟨_, _, hcell'⟩ := World.cells?_some hc'
          have h2 := hcell' 0 hk0
          simp only [Nat.zero_mul, Addr.add, if_true] at h2
          have hl1 := hen z0
          rw [List.getElem?_eq_getElem (by omega)] at h2
          cases hsp : a.spot with
          | none => rfl
          | some s => simp [World.cell?, hsp] at h2; split at h2 <;> cases h2
      refine ⟨z, hok, hs, fun j v hv => ?_⟩
      have hj : j < k := by rw [← hl0]; exact (List.getElem?_eq_some_iff.1 hv).1
      have := hcell j hj
      rw [hv] at this
      obtain ⟨b, o, s⟩ := a
      simp only at hs
      subst hs
      have e1 : ((⟨b, o, none⟩ : Addr).add (i * k)).add j = ⟨b, o + i * k + j, none⟩ := by
        simp only [Addr.add]; split <;> split <;> simp_all <;> omega
      rw [e1] at this
      exact this
    rcases Nat.eq_zero_or_pos len with h0 | h0
    · subst h0
      exact ⟨some a, [], _, rfl, SlAt.nil, by simp, by simp, hcm⟩
    · have hs : a.spot = none := (hz 0 h0).choose_spec.2.1
      obtain ⟨b, o, s⟩ := a
      simp only at hs
      subst hs
      let f : Nat → α := fun i => if h : i < len then (hz i h).choose else (hz 0 h0).choose
      refine ⟨some ⟨b, o, none⟩, (List.range len).map f, m, by simp, ?_, ?_, by simpa using hlc, hcm⟩
      · intro i z hiz
        rw [List.getElem?_map] at hiz
        obtain ⟨i', hi', rfl⟩ := Option.map_eq_some_iff.1 hiz
        obtain ⟨hlt, rfl⟩ := List.getElem?_eq_some_iff.1 hi'
        simp only [List.length_range] at hlt
        simp only [List.getElem_range]
        have hsp := (hz i hlt).choose_spec.2.2
        have hf : f i = (hz i hlt).choose := by simp [f, hlt]
        rw [hf]
        refine ⟨b, o, rfl, ?_, hsp⟩
        have hlen := hen (hz i hlt).choose
        have := hsp 0 _ (List.getElem?_eq_getElem (by omega))
        exact World.block_lt_of_cell? w _ this
      · intro z hz'
        obtain ⟨i, hi', rfl⟩ := List.mem_map.1 hz'
        have hlt := List.mem_range.1 hi'
        have hf : f i = (hz i hlt).choose := by simp [f, hlt]
        rw [hf]
        exact (hz i hlt).choose_spec.1

theorem len_me (x : Me) : (encMe x).length = 5 := rfl
set_option maxRecDepth 20000 in
/-- an argument that is a track -/
theorem open_track {base : Nat} {r : Reach} {v : Value} {dd : DataW H} {p : List MemPlace} (hv : Value.okWide Tryd.prog w r base 24 v) (h : DataW.Trod enc Tryd.prog w 0 (fun _ => true) held 24 v dd p) :
    ∃ (A : Option Addr) (t : List St) (c : Nat), v = .agg #[.slice A t.length c] ∧ SlAt encSt 9 w A t ∧ (∀ s ∈ t, FitSt s) ∧ t.length ≤ c ∧ c ≤ maxLen := by
  obtain ⟨cs, rfl, _⟩ := okWide_struct Tryd.underlying24 hv
  obtain ⟨fuel, hf⟩ := h
  have hl := rd_len Tryd.underlying24 hf (k := 1) (by kernel_rfl)
  obtain ⟨n0, y0, h0⟩ := rd_field Tryd.underlying24 hf (j := 0) rfl rfl (k := 1) (by kernel_rfl)
  obtain ⟨A, t, c, e0, hs, hfit, h1, h2⟩ := rd_slice (en := encSt) (k := 9) (ok := FitSt) Tryd.underlying22 (by kernel_rfl) (by omega) (fun _ => rfl) (fun _ _ _ h => rd_st h) h0
  refine ⟨A, t, c, ?_, hs, hfit, h1, h2⟩
  obtain ⟨l⟩ := cs
  match l, hl with
  | [c0], _ =>
    simp [Value.cells] at e0
    rw [e0]
end
end Go.Proofs.YtdigopgncfhiaaaDoor
