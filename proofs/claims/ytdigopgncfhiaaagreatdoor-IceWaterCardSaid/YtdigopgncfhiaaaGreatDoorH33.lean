/- H33 -/
import Derived.Test.YtdigopgncfhiaaaGreatDoorH23
set_option linter.unusedSimpArgs false
set_option linter.unusedVariables false
namespace Go.Proofs.YtdigopgncfhiaaaGreatDoor
open Go.RowKit
set_option maxRecDepth 20000
def zRC (L F:List (zz Int)) (q k:Nat):Prop:=F.length=L.length∧∀ (i:Nat) (s:zz Int),i<k→L[i]?=some s→∃ f:zz Int,F[i]?=some f∧f.xs=s.xs.take q∧∀ W,zp encI 1 W s.A s.xs→zp encI 1 W f.A f.xs
theorem zRC.zero {L:List (zz Int)} {q:Nat}:zRC L (List.replicate L.length zAr) q 0:=⟨by simp,fun i s h=>absurd h (by omega)⟩
theorem zRC.at_ {L F:List (zz Int)} {q i:Nat} {f:zz Int} (h:zRC L F q L.length) (hf:F[i]?=some f):∃ s,L[i]?=some s∧f.xs=s.xs.take q∧∀ W,zp encI 1 W s.A s.xs→zp encI 1 W f.A f.xs:=by
 have hi:i<L.length:=by rw [← h.1];exact (List.getElem?_eq_some_iff.1 hf).1
 obtain ⟨g,hg,h2⟩:=h.2 i L[i] hi (List.getElem?_eq_getElem hi)
 rw [hf] at hg;cases hg
 exact ⟨L[i],List.getElem?_eq_getElem hi,h2⟩
theorem zRC.xs {L F:List (zz Int)} {q:Nat} (h:zRC L F q L.length):F.map (·.xs)=(L.map (·.xs)).map fun r=>r.take q:=by
 refine List.ext_getElem? fun i=>?_
 rw [List.getElem?_map,List.getElem?_map,List.getElem?_map]
 cases hf:F[i]? with
 | none =>
  have:L[i]?=none:=List.getElem?_eq_none (by rw [← h.1];exact List.getElem?_eq_none_iff.1 hf)
  rw [this];rfl
 | some f =>
  obtain ⟨s,hs,e,_⟩:=h.at_ hf
  rw [hs];simp [e]
theorem zRC.tab {L F:List (zz Int)} {q:Nat} {A P:Option Addr} {W:World} (h:zRC L F q L.length) (hp:zp zn 1 W P F) (hT:zC1 encI 1 W A L):zC1 encI 1 W P F :=
 ⟨hp,fun f hf=>by
  obtain ⟨i,hi⟩:=List.getElem?_of_mem hf
  obtain ⟨s,hs,_,e⟩:=h.at_ hi
  exact e W (hT.rows s (List.mem_of_getElem? hs))⟩
end Go.Proofs.YtdigopgncfhiaaaGreatDoor
