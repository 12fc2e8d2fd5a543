/- C37 -/
import Derived.Test.YtdigopgncfhiaaaGreatDoorC32
import Derived.Test.YtdigopgncfhiaaaGreatDoorC30
set_option linter.unusedSimpArgs false
set_option linter.unusedVariables false
namespace Go.Proofs.YtdigopgncfhiaaaGreatDoor
open Go.RowKit
open Flow (sumL)
def zCX (xss:List (List Int)):Nat→Nat
 | 0=>0
 | k+1=>zCX xss k+(xss.getD k []).length
theorem zIt {xss:List (List Int)} {k:Nat}:∀ d,zCX xss k≤zCX xss (k+d)
 | 0=>Nat.le_refl _
 | d+1=>by have:=zIt (xss:=xss) (k:=k) d;show _≤zCX xss ((k+d)+1);simp only [zCX];omega
theorem zMD {xss:List (List Int)} {n:Nat}:∀ k,n<zCX xss k→∃ J j,J<k∧j<(xss.getD J []).length∧n=zCX xss J+j
 | 0,h=>by simp [zCX] at h
 | k+1,h=>by
  rcases Nat.lt_or_ge n (zCX xss k) with h1|h1
  ·obtain ⟨J,j,h2,h3,h4⟩:=zMD k h1
   exact ⟨J,j,by omega,h3,h4⟩
  ·simp only [zCX] at h
   exact ⟨k,n - zCX xss k,by omega,by omega,by omega⟩
theorem zOS {xss:List (List Int)} {k j:Nat} (hj:j<k) (h:zCX xss k=0):xss.getD j []=[]:=by
 have h1:=zIt (xss:=xss) (k:=j+1) (k - (j+1))
 rw [show j+1+(k - (j+1))=k by omega,h] at h1
 simp only [zCX] at h1
 exact List.length_eq_zero_iff.1 (by omega)
def zCv (xss:List (List Int)) (J j:Nat):List (List Int):=xss.set J ((xss.getD J []).eraseIdx j)
theorem zRz {xss:List (List Int)} {J j k:Nat} (hJ:J<xss.length):(zCv xss J j).getD k []=if k=J then (xss.getD J []).eraseIdx j else xss.getD k []:=zEq hJ
theorem less_law {c:Cov} (h0:zAr c=0) (hs:Small c) (hc:zDG (zA2 c) (zC6 c) (zAp c)=true) {J j:Nat} (hJ:J<c.hours.length) (hj:j<((zAy c).1.getD J []).length):zCG c (zm (zCv (zAy c).1 J j))=0∧zBR c (zm (zCv (zAy c).1 J j))≠2:=by
 obtain ⟨h1,h2,h3⟩:=zET h0 hs hc
 have hf:=zA1 h0
 generalize (zAy c).1=xss at *
 have hl:xss.length=c.hours.length:=by have:=(zAc.1 h1).1;simpa [zm] using this
 have hat:=fun k=>zRz (j:=j) (k:=k) (show J<xss.length by omega)
 have hok:zAz c (zm (zCv xss J j))=true:=by
  refine zAc.2 ⟨by simp [zm,zCv,hl],fun i u s hu hs2=>?_⟩
  have hi:=(List.getElem?_eq_some_iff.1 hu).1
  have e:s.xs=(zCv xss J j).getD i []:=by rw [← zHv,zAW hs2]
  obtain ⟨s0,hs0⟩:∃ s0,(zm xss)[i]?=some s0:=⟨_,List.getElem?_eq_getElem (by simp [zm,hl];exact hi)⟩
  have e0:s0.xs=xss.getD i []:=by rw [← zHv,zAW hs0]
  have hr:=(zAc.1 h1).2 i u s0 hu hs0
  have hsub:s.xs.Sublist s0.xs:=by
   rw [e,e0,hat]
   split
   ·rename_i e2;subst e2;exact List.eraseIdx_sublist _ _
   ·exact List.Sublist.refl _
  have hpw:s.xs.Pairwise (· < ·):=by
   have h9:=(h2 i).1
   rw [← e0] at h9
   exact h9.sublist hsub
  have hlen:=hsub.length_le
  unfold zDR at hr ⊢
  simp only [Bool.and_eq_true,Bool.or_eq_true,decide_eq_true_eq,List.all_eq_true] at hr ⊢
  refine ⟨⟨⟨by omega,?_⟩,fun x hx=>hr.1.2 x (hsub.subset hx)⟩,zCq.2 fun q hq=>?_⟩
  ·rcases hr.1.1.2 with h9|h9
   ·exact .inl (by omega)
   ·exact .inr h9
  ·rw [Flow.zt (by omega),Flow.zt hq]
   exact List.pairwise_iff_getElem.1 hpw q (q+1) (by omega) hq (by omega)
 refine ⟨zC7 h0 hok,fun hsafe=>?_⟩
 have hth:(zAg c (zm (zCv xss J j)) zAZ).length=0:=by
  unfold zBR at hsafe
  split at hsafe
  ·split at hsafe
   ·assumption
   ·split at hsafe<;>omega
  ·omega
 have hin:(xss.getD J [])[j]∈xss.getD J []:=List.getElem_mem hj
 obtain ⟨i,hi,hib⟩:=(h2 J).2 _ hin
 have hsf:=(zHx hf).1 hth i hib (c.hours.length - 1) (by omega)
 rw [Nat.sub_add_cancel (by omega),← h3 i hib] at hsf
 have hmn:=zFp (xss:=zCv xss J j) (i:=i) (k:=c.hours.length - 1) 1
 rw [Nat.sub_add_cancel (by omega)] at hmn
 have hcnt:zBe (zCv xss J j) i c.hours.length+1=zBe xss i c.hours.length:=by
  have e1:sumL (List.range c.hours.length) (fun k=>(if ((zCv xss J j).getD k []).contains (i:Int) then 1 else 0)+(if k=J then 1 else 0))=zBe xss i c.hours.length:=zx _ fun k _=>by
   rw [hat]
   by_cases e:k=J
   ·subst e
    rw [if_pos rfl,if_pos rfl]
    have hnd:(xss.getD k []).Nodup:=(h2 k).1.imp fun h=>by omega
    have hno:((xss.getD k []).eraseIdx j).contains (i:Int)=false:=by
     rw [Bool.eq_false_iff]
     intro h9
     have h9:=List.contains_iff_mem.1 h9
     rw [List.mem_eraseIdx_iff_getElem] at h9
     obtain ⟨q,hq,hne,e9⟩:=h9
     rw [← hi] at e9
     rcases Nat.lt_trichotomy q j with h|h|h
     ·have:=List.pairwise_iff_getElem.1 (h2 k).1 q j hq hj h
      omega
     ·exact hne h
     ·have:=List.pairwise_iff_getElem.1 (h2 k).1 j q hj hq h
      omega
    have hyes:(xss.getD k []).contains (i:Int)=true:=List.contains_iff_mem.2 (by rw [← hi];exact hin)
    rw [hno,hyes];rfl
   ·rw [if_neg e,if_neg e,Int.add_zero]
  rw [← e1,Flow.zBW,Flow.zC3 List.nodup_range (List.mem_range.2 hJ)];rfl
 omega
def zGH (c:Cov):List (List Int):=List.replicate c.hours.length []
theorem none_law {c:Cov} (h0:zAr c=0) (hs:Small c) (hc:zDG (zA2 c) (zC6 c) (zAp c)=true) (hn:zCX (zAy c).1 c.hours.length=0):zCG c (zm (zGH c))=0∧zBR c (zm (zGH c))=2:=by
 obtain ⟨h1,h2,h3⟩:=zET h0 hs hc
 have hf:=zA1 h0
 have hz:∀ k,(zGH c).getD k []=[]:=fun k=>by
  unfold zGH
  rw [List.getD_eq_getElem?_getD,List.getElem?_replicate]
  split<;>rfl
 have hok:zAz c (zm (zGH c))=true:=by
  refine zAc.2 ⟨by simp [zm,zGH],fun i u s hu hs2=>?_⟩
  have e:s.xs=[]:=by rw [← hz i,← zHv,zAW hs2]
  have hcr:=hf.hour u (List.mem_of_getElem? hu)
  simp only [zBX,Bool.and_eq_true,zAA] at hcr
  unfold zDR
  rw [e]
  simp only [Bool.and_eq_true,Bool.or_eq_true,decide_eq_true_eq,List.all_eq_true,List.length_nil]
  exact ⟨⟨⟨by omega,.inl trivial⟩,fun x hx=>by cases hx⟩,rfl⟩
 have hk:=zC7 h0 hok
 refine ⟨hk,?_⟩
 unfold zBR
 rw [if_pos hk,if_pos ((zHx hf).2 fun i hi j hj=>?_)]
 have e:=h3 i hi
 have e0:zBe (zAy c).1 i c.hours.length=0:=Flow.zAa fun k hk=>by rw [zOS (List.mem_range.1 hk) hn];rfl
 have hm:=zH5 (c:=c) (z:=c.beds.getD i default) (j+1) (c.hours.length - (j+1))
 rw [show j+1+(c.hours.length - (j+1))=c.hours.length by omega] at hm
 have:0≤zBe (zGH c) i j:=Flow.zBE fun _ _=>by split<;>omega
 omega
end Go.Proofs.YtdigopgncfhiaaaGreatDoor
