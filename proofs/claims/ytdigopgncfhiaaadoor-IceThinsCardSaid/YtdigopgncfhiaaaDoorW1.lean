/- Spots: whether they stand, where they lie, how far apart they are. -/
import Derived.Test.YtdigopgncfhiaaaDoorV9
namespace Go.Proofs.YtdigopgncfhiaaaDoor
variable {ro : Option Nat}
set_option linter.unusedVariables false
open Go.RowKit
set_option maxRecDepth 20000
set_option linter.unusedSimpArgs false

/-- where a new slice that isn't empty begins -/
def Wit.off (x : Wit) : Nat := match x.A with | some a => a.off | none => 0
section
variable {S : Pend} {P : Program} {w0 : World} {n : Nat} {d : List Deferred} {R0 : List (Nat × Value)} {H0 : List Ent} {Q : Exit → Act → World → Prop} {ops : Array Oper} {bs : List (List Bool)} {b : List Bool} {k : Nat} {o : Oper} {rest : List Oper} {T : List Rw} {t : Tmp} {Hk : Wits → List Ent}
/-- a call whose slice isn't empty -/
theorem c_newslS {α : Type} {enc : α → List Value} {kk : Nat} {zs : List α} {V : Value → Value} {f : FuncId} {fx : Operand} {xs : Array Operand} {ts : Array TypeId} {vs : Wits → List Value} {cap : Array Value} (hop : o.op = .call ⟨.value fx, xs, ts⟩) (hw : ∀ G, want (Rk R0 ops b o T G) ops o = some true) (hd : o.dst = some t) (hf : ∀ G, evR (Rk R0 ops b o T G) fx = some (.func (.func f) #[] cap)) (hx : ∀ G, evs (Rk R0 ops b o T G) xs.toList = some (vs G)) [ci : CallI P f]
    (hc : ∀ G a w, Kn w0 n d (Rk R0 ops b o T G) (Hk G) a w → NewSl enc kk zs V P f (vs G ++ cap.toList) w) (h0 : 0 < zs.length) (h : Chain ro S P w0 n d ops R0 H0 Q bs (k + 1) rest (⟨k, some t, fun G => (V (.slice (some ⟨(G k).g, (G k).off, none⟩) zs.length (G k).m), [.sl enc kk (some ⟨(G k).g, (G k).off, none⟩) zs])⟩ :: T)) : CAt ro S P w0 n d ops R0 H0 Q b bs k o rest T Hk := by
  refine c_row (f := fun G => (V (.slice (some ⟨(G k).g, (G k).off, none⟩) zs.length (G k).m), [.sl enc kk (some ⟨(G k).g, (G k).off, none⟩) zs])) (fun G G' hG => by simp only [hG k (.inl rfl)]) (fun G a w q K hK => ?_) (by rw [hd]; exact h)
  rw [want_ok q (hw G), if_pos rfl]
  unfold Oper.wp execOp; rw [hop]
  have e1 : xs.map a.eval = (vs G).toArray := by apply Array.ext'; simpa using q.evs (hx G)
  have e2 : (vs G).toArray ++ cap = (vs G ++ cap.toList).toArray := by apply Array.ext'; simp
  simp only [resolve, q.ev (hf G), e1, Deferred.ofValue, Sem.run_bind, Sem.run_pure, Result.andThen_ok, invoke, Array.empty_append, e2, ci.ent, Oper.upon_enter]
  refine Calls.mono (hc G a w q).ret.calls ?_
  rintro e w' ⟨⟨A, m⟩, hp, rfl, hb, hE⟩
  obtain ⟨g, off, rfl, _⟩ := (hE.here (.sl enc kk A zs) (Take.here _ _).mem : SlAt enc kk w' A zs).at_ h0
  exact hK _ _ _ ⟨⟨g, some ⟨g, off, none⟩, m⟩, by simp [upW, Wit.off]⟩ hb hE
end

def encSpot (s : Spot) : List Value := [.int .i64 s.st, .int .i64 s.off.lo, .int .i64 s.off.hi]
def vSpot (s : Spot) : Value := .agg #[.int .i64 s.st, .int .i64 s.off.lo, .int .i64 s.off.hi]
theorem one_spot (x : Spot) : ∀ u ∈ encSpot x, u.oneCell' = true := by simp [encSpot, Value.oneCell']
instance : EncI encSpot 3 := ⟨fun _ => rfl, one_spot⟩


/-- does the spot lie on the track? -/
def spotOk (t : List St) (s : Spot) : Bool := inB 0 (t.length - 1) s.st && match t[s.st.toNat]? with | some o => knownB s.off 0 (o.long.lo - 1) | none => false
def spotP (t : List St) (_ : Nat) (s : Spot) : Bool := !spotOk t s

theorem spotOk_in {t : List St} {I : Nat} {off : Sp} (h : I < t.length) : spotOk t ⟨I, off⟩ = knownB off 0 (t[I].long.lo - 1) := by
  have h1 : inB 0 (t.length - 1) (I : Int) = true := inB_iff.2 (by omega)
  simp [spotOk, h1, h]
theorem spotOk_out {t : List St} {s : Spot} (h : ¬ (0 ≤ s.st ∧ s.st ≤ (t.length : Int) - 1)) : spotOk t s = false := by
  have h1 := inB_no.2 h
  simp [spotOk, h1]
theorem spotOk_yes {t : List St} {s : Spot} (h : spotOk t s = true) : ∃ I : Nat, s.st = I ∧ I < t.length := by
  simp only [spotOk, Bool.and_eq_true, inB_iff] at h
  exact ⟨s.st.toNat, by omega, by omega⟩

end Go.Proofs.YtdigopgncfhiaaaDoor
