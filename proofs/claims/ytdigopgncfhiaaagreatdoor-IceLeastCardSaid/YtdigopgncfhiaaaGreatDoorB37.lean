/- B37 -/
import Derived.Test.YtdigopgncfhiaaaGreatDoorB1
import Derived.Test.YtdigopgncfhiaaaGreatDoorB8
import Derived.Test.YtdigopgncfhiaaaGreatDoorB32
set_option linter.unusedSimpArgs false
set_option linter.unusedVariables false
namespace Go.Proofs.YtdigopgncfhiaaaGreatDoor
open Go.RowKit
open Flow (lackF zBl sumL)
theorem zLF {f:Nat→Int} (h:∀ i,0≤f i) (k:Nat):∀ d,sumL (List.range k) f≤sumL (List.range (k+d)) f
 | 0=>Int.le_refl _
 | d+1=>by have:=zLF h k d;have:=h (k+d);rw [← Nat.add_assoc,Flow.zAD];omega
theorem zQM {f:Nat→Int} {k n:Nat} (h:∀ i,0≤f i) (hk:k≤n):sumL (List.range k) f≤sumL (List.range n) f:=by
 have:=zLF h k (n - k)
 rwa [show k+(n - k)=n by omega] at this
theorem can_of {nb nh:Nat} {nd:Nat→Nat→Int} {my:Nat→Nat→Bool} {hd:Nat→Int} (X:Nat→Nat→Bool) (hX:∀ h j,h<nh→j<nb→X h j=true→my j h=true) (hn:∀ j k,j<nb→k<nh→nd j k≤sumL (List.range k) fun h=>if X h j then 1 else 0) (hh:∀ h,h<nh→(sumL (List.range nb) fun j=>if X h j then 1 else 0)≤hd h):zHO nb nh nd my hd:=by
 intro m
 have key:∀ j,j<nb→(lackF (nd j) (my j) m nh).1≤sumL (List.range nh) fun h=>if m h && X h j then 1 else 0:=fun j hj=>by
  refine zDP (Flow.zA7 fun _ _=>by split<;>omega) fun k hk=>?_
  have h1:=hn j k hj hk
  have h2:(sumL (List.range k) fun h=>if X h j then 1 else 0)≤sumL (List.range k) fun h=>(if my j h && !m h then 1 else 0)+(if m h && X h j then 1 else 0):=Flow.zAs fun h hhk=>by
   have h9:=hX h j (by have:=List.mem_range.1 hhk;omega) hj
   cases hx:X h j
   ·simp;split<;>omega
   ·rw [h9 hx];cases m h<;>simp
  rw [Flow.zBQ] at h2
  have h3:(sumL (List.range k) fun h=>if m h && X h j then 1 else 0)≤sumL (List.range nh) fun h=>if m h && X h j then 1 else 0:=zQM (fun _=>by split<;>omega) zRU
  unfold zBl
  omega
 have h1:=Flow.zAs (l:=List.range nb) fun j hj=>key j (List.mem_range.1 hj)
 rw [Flow.zE4] at h1
 have h2:(sumL (List.range nh) fun h=>sumL (List.range nb) fun j=>if m h && X h j then 1 else 0)≤sumL (List.range nh) fun h=>if m h then hd h else 0:=Flow.zAs fun h hhk=>by
  cases m h
  ·rw [Flow.zAT fun _ _=>by simp];simp
  ·simpa using hh h (List.mem_range.1 hhk)
 unfold zDO
 omega
theorem zMT {nb:Nat}:∀ r:List Int,r.Pairwise (· < ·)→(∀ x∈r,∃ j:Nat,x=(j:Int)∧j<nb)→(sumL (List.range nb) fun j=>if r.contains (j:Int) then 1 else 0)=r.length
 | [],_,_=>Flow.zAT fun _ _=>by simp
 | x::r,h1,h2=>by
  obtain ⟨h3,h4⟩:=List.pairwise_cons.1 h1
  have ih:=zMT r h4 fun y hy=>h2 y (List.mem_cons_of_mem _ hy)
  obtain ⟨q,rfl,hq⟩:=h2 x List.mem_cons_self
  have e:(sumL (List.range nb) fun j=>if (((q:Int)::r).contains (j:Int)) then 1 else 0)=sumL (List.range nb) fun j=>(if j=q then 1 else 0)+(if r.contains (j:Int) then 1 else 0):=Flow.zt fun j _=>by
   by_cases e:j=q
   ·subst e
    have:r.contains (j:Int)=false:=by
     rw [Bool.eq_false_iff]
     intro h
     have:=h3 _ (List.contains_iff_mem.1 h)
     omega
    have h5:¬ (j:Int)∈r:=fun h=>by have:=h3 _ h;omega
    simp [h5]
   ·have:¬ (j:Int)=(q:Int):=by omega
    rw [if_neg e,Int.zero_add]
    simp [List.contains_cons,this]
  rw [e,Flow.zBQ,Flow.zCp List.nodup_range (List.mem_range.2 hq),ih,List.length_cons]
  omega
def zA3 (xss:List (List Int)) (h i:Nat):Bool:=(xss.getD h []).contains (i:Int)
theorem zEj {c:Cov} {xss:List (List Int)} (hf:zBm c) (hok:zA2 c (zAC xss)=true):∀ h,h<c.hours.length→(xss.getD h []).Pairwise (· < ·)∧(∀ x∈xss.getD h [],∃ j:Nat,x=(j:Int)∧j<c.beds.length)∧((xss.getD h []).length:Int)≤(zAk c).getD h 0∧(xss.getD h []≠[]→(c.hours.map (·.cold)).getD h false=true):=fun h hh=>by
 obtain ⟨hl,hr⟩:=zAj.1 hok
 obtain ⟨u,hu⟩:∃ u,c.hours[h]?=some u:=⟨_,List.getElem?_eq_getElem hh⟩
 obtain ⟨s,hs⟩:∃ s,(zAC xss)[h]?=some s:=⟨_,List.getElem?_eq_getElem zRU⟩
 have e:s.xs=xss.getD h []:=by rw [← zHX,zAS hs]
 have hb:=hf.beds
 have h1:=hr h u s hu hs
 unfold zDL at h1
 rw [e] at h1
 simp only [Bool.and_eq_true,Bool.or_eq_true,decide_eq_true_eq,List.all_eq_true,zx] at h1
 obtain ⟨⟨⟨a1,a2⟩,a3⟩,a4⟩:=h1
 have hS:(zAk c).getD h 0=zFK u:=by unfold zAk;rw [getD_map hu]
 have hC:(c.hours.map (·.cold)).getD h false=u.cold:=by rw [getD_map hu]
 refine ⟨?_,fun x hx=>⟨x.toNat,by have:=a3 x hx;omega,by have:=a3 x hx;omega⟩,?_,fun hne=>?_⟩
 ·have h4:=zCf.1 a4
  have key:∀ d i,i+d+1<(xss.getD h []).length→(xss.getD h []).getD i 0<(xss.getD h []).getD (i+d+1) 0:=by
   intro d
   induction d with
   | zero=>intro i hi;exact h4 i hi
   | succ d ih =>
    intro i hi
    have:=ih i zRU
    have:=h4 (i+d+1) zRU
    rw [show i+(d+1)+1=i+d+1+1 by omega]
    omega
  rw [List.pairwise_iff_getElem]
  intro i j hi hj hij
  have:=key (j - i - 1) i zRU
  rw [show i+(j - i - 1)+1=j by omega,Flow.zm hi,Flow.zm hj] at this
  exact this
 ·rw [hS]
  unfold zFK
  rcases a2 with h9|h9
  ·rw [h9]
   have:=zDt hf u (List.mem_of_getElem? hu)
   split<;>omega
  ·rw [h9,if_pos rfl];exact a1
 ·rw [hC]
  rcases a2 with h9|h9
  ·exact absurd (List.length_eq_zero_iff.1 h9) hne
  ·exact h9
theorem zN3 {c:Cov} {xss:List (List Int)} (hf:zBm c) (hok:zA2 c (zAC xss)=true) {h:Nat} (hh:h<c.hours.length):(sumL (List.range c.beds.length) fun j=>if zA3 xss h j then 1 else 0)=(xss.getD h []).length:=zMT _ (zEj hf hok h hh).1 (zEj hf hok h hh).2.1
theorem zLn {c:Cov} {xss:List (List Int)} (hf:zBm c) (hok:zA2 c (zAC xss)=true) {h i:Nat} (hh:h<c.hours.length) (hx:zA3 xss h i=true):(c.hours.map (·.cold)).getD h false=true:=(zEj hf hok h hh).2.2.2 fun e=>by unfold zA3 at hx;rw [e] at hx;cases hx
theorem safe_can {c:Cov} {xss:List (List Int)} (h0:zAp c=0) (hs:Small c) (hok:zA2 c (zAC xss)=true) (hsafe:∀ i,i<c.beds.length→∀ j,j<c.hours.length→(needG c (c.beds.getD i default) (j+1)).2≤zBY xss i j):zC1 (zAu c) (zCs c) (zAk c)=true:=by
 have hf:=zAy h0
 have ok0:=zCV hf hs (zDt hf)
 refine (zEp ok0).2 (can_of (zA3 xss) (fun h j hh hj hx=>?_) (fun j k hj hk=>?_) fun h hh=>?_)
 ·show ((zCs c).getD j []).getD h false=true
  rw [zJK hj];exact zLn hf hok hh hx
 ·show ((zAu c).getD j []).getD k 0≤_
  rw [zE8 hj k hk];exact hsafe j hj k hk
 ·rw [zN3 hf hok hh];exact (zEj hf hok h hh).2.2.1
end Go.Proofs.YtdigopgncfhiaaaGreatDoor
namespace Go.Proofs.YtdigopgncfhiaaaGreatDoor
open Go.RowKit
open Flow (lackF zBl sumL)
set_option linter.unusedSectionVars false
def Bef (h i k j:Nat):Prop:=k<h∨(k=h∧j<i)
theorem zLa {nb nh:Nat} {nd:Nat→Nat→Int} {my:Nat→Nat→Bool} {hd:Nat→Int} {j k:Nat} (hc:zHO nb nh nd my hd) (hj:j<nb) (hk:k<nh) (hp:∀ q,q<k→my j q=false):nd j k≤0:=by
 have hc9:=hc fun _=>false
 unfold zDO at hc9
 rw [Flow.zAT (l:=List.range nh) (fun _ _=>by simp)] at hc9
 have h1:=Flow.zDu (l:=List.range nb) (f:=fun i=>(lackF (nd i) (my i) (fun _=>false) nh).1) (a:=j) (fun j _=>Flow.zBJ _) (List.mem_range.2 hj)
 have h2:=Flow.zBr (nd:=nd j) (my:=my j) (sm:=fun _=>false) nh k hk
 have h3:zBl (my j) (fun _=>false) k=0:=Flow.zAT fun q hq=>by
  rw [hp q (List.mem_range.1 hq)];rfl
 omega
theorem zIa {nh h i k j:Nat} {s:PS} (ol:s.out.length=nh) (hh:h<nh):zA3 (zIQ s h i) k j=if k=h∧j=i then true else zA3 s.out k j:=by
 unfold zA3 zIQ
 rw [zEV zRU]
 by_cases e:k=h
 ·subst e
  rw [if_pos rfl]
  by_cases e2:j=i
  ·subst e2
   rw [if_pos ⟨rfl,rfl⟩]
   simp
  ·have:¬ (j:Int)=(i:Int):=by omega
   rw [if_neg (fun q=>e2 q.2)]
   simp [List.contains_eq_mem,this]
 ·rw [if_neg e,if_neg (fun q=>e q.1)]
theorem zCl {xss:List (List Int)} {j k:Nat}:zBY xss j k=sumL (List.range k) fun h=>if zA3 xss h j then 1 else 0:=rfl
theorem zL0 {nh h i j:Nat} {s:PS} (ol:s.out.length=nh) (hh:h<nh) (hno:zA3 s.out h i=false):∀ k,zBY (zIQ s h i) j k=zBY s.out j k+(if j=i∧h<k then 1 else 0)
 | 0=>by simp [zBY,sumL]
 | k+1=>by
  have ih:=zL0 (j:=j) ol hh hno k
  rw [zCl,zCl,Flow.zAD,Flow.zAD,← zCl,← zCl,ih,zIa ol hh]
  by_cases e:k=h∧j=i
  ·obtain ⟨rfl,rfl⟩:=e
   simp [hno]
  ·have e1:(if k=h∧j=i then true else zA3 s.out k j)=zA3 s.out k j:=if_neg e
   rw [e1]
   by_cases e2:j=i
   ·have:k≠h:=fun q=>e ⟨q,e2⟩
    by_cases e3:h<k
    ·rw [if_pos (c:=j=i∧h<k) ⟨e2,e3⟩,if_pos (c:=j=i∧h<k+1) ⟨e2,by omega⟩];omega
    ·rw [if_neg (c:=j=i∧h<k) (fun q=>e3 q.2),if_neg (c:=j=i∧h<k+1) (fun q=>by omega)];omega
   ·rw [if_neg (c:=j=i∧h<k) (fun q=>e2 q.1),if_neg (c:=j=i∧h<k+1) (fun q=>e2 q.1)];omega
structure zGR (nb nh:Nat) (s0:PS) (h i:Nat) (s:PS):Prop where
 nd:∀ j k,j<nb→k<nh→ndF s j k=max 0 (ndF s0 j k - zBY s.out j nh)
 time:∀ j k,j<nb→k<nh→ndF s0 j k≤ndF s j k+zBY s.out j k
 my:∀ j k,j<nb→k<nh→¬ Bef h i k j→myF s j k=myF s0 j k
section
variable {nb nh h i:Nat} {s s0:PS}
theorem zPs (iv:zGv nb nh s0 h i s) {k j:Nat} (hx:zA3 s.out k j=true):Bef h i k j:=by
 obtain ⟨q,e,h1,h2⟩:=(iv.rows k).2 _ (List.contains_iff_mem.1 hx)
 have:j=q:=by omega
 subst this
 exact h2
theorem zGR.step (mo:zGR nb nh s0 h i s) (iv:zGv nb nh s0 h i s) (ok:zCP nb nh h i s) (hi:i<nb) (hh:h<nh):zGR nb nh s0 h (i+1) (zCF h i s):=by
 have hmy:∀ (n d o),∀ j k,j<nb→k<nh→¬ Bef h (i+1) k j→myF ⟨n,zCy s h i,d,o⟩ j k=myF s0 j k:=fun n d o j k hj hk hb=>by
  rw [zHm ok hi]
  dsimp only
  unfold Bef at hb
  rw [if_neg (fun q=>hb (.inr zRU))]
  exact mo.my j k hj hk fun q=>by unfold Bef at q;omega
 have hno:zA3 s.out h i=false:=by
  cases e:zA3 s.out h i with
  | false=>rfl
  | true=>have:=zPs iv e;unfold Bef at this;omega
 have hct:=fun j k=>zL0 (j:=j) ok.ol hh hno k
 unfold zCF
 cases ht:zEf s h i with
 | false =>
  rw [if_neg zRf]
  exact ⟨mo.nd,mo.time,hmy _ _ _⟩
 | true =>
  rw [if_pos rfl]
  cases hb:zC1 (zFz s i) (zCy s h i) (zCH s h) with
  | false =>
   rw [if_neg zRf]
   exact ⟨mo.nd,mo.time,hmy _ _ _⟩
  | true =>
   rw [if_pos rfl]
   refine ⟨fun j k hj hk=>?_,fun j k hj hk=>?_,hmy _ _ _⟩
   ·have h1:=mo.nd j k hj hk
    rw [zHl ok hi]
    dsimp only
    rw [hct]
    by_cases e:j=i
    ·subst e
     rw [if_pos rfl,if_pos ⟨rfl,hh⟩,h1];omega
    ·rw [if_neg e,if_neg (fun q=>e q.1),h1];omega
   ·have h1:=mo.time j k hj hk
    rw [zHl ok hi]
    dsimp only
    rw [hct]
    by_cases e:j=i
    ·subst e
     rw [if_pos rfl]
     by_cases e2:h<k
     ·rw [if_pos ⟨rfl,e2⟩];omega
     ·rw [if_neg (fun q=>e2 q.2)]
      have:=zLa iv.can hj hk fun q hq=>iv.past j q hj (.inl zRU)
      omega
    ·rw [if_neg e,if_neg (fun q=>e q.1)];omega
theorem zGR.next (mo:zGR nb nh s0 h nb s):zGR nb nh s0 (h+1) 0 s :=
 ⟨mo.nd,mo.time,fun j k hj hk hb=>mo.my j k hj hk fun q=>hb (by unfold Bef at q ⊢;omega)⟩
theorem zHF (mo:zGR nb nh s0 h 0 s) (iv:zGv nb nh s0 h 0 s) (ok:zCP nb nh h 0 s) (hh:h<nh):∀ i,i≤nb→zGR nb nh s0 h i (stepsP h i s)
 | 0,_=>mo
 | i+1,hi=>(zHF mo iv ok hh i zRU).step (zGk iv ok hh i zRU) (zEK ok hh i zRU) zRU hh
theorem zHG (mo:zGR nb nh s0 0 0 s) (iv:zGv nb nh s0 0 0 s) (ok:zCP nb nh 0 0 s):∀ h,h≤nh→zGR nb nh s0 h 0 (zBt nb h s)
 | 0,_=>mo
 | h+1,hh=>(zHF (zHG mo iv ok h zRU) (zFE iv ok h zRU) (zC0 ok h zRU) zRU nb (Nat.le_refl _)).next
theorem zNG {k j:Nat} (ol:s.out.length=nh) (hh:h<nh) (hne:¬ (k=h∧j=i)):zA3 (zCF h i s).out k j=zA3 s.out k j:=by
 unfold zCF
 split
 ·split
  ·dsimp only
   rw [zIa ol hh,if_neg hne]
  ·rfl
 ·rfl
theorem zIF (ok:zCP nb nh h 0 s) (hh:h<nh) {k j m:Nat} (hne:k=h→j<m):∀ d,m+d≤nb→zA3 (stepsP h (m+d) s).out k j=zA3 (stepsP h m s).out k j
 | 0,_=>rfl
 | d+1,hd=>by
  have ih:=zIF ok hh (k:=k) (j:=j) hne d zRU
  rw [← ih]
  show zA3 (zCF h (m+d) (stepsP h (m+d) s)).out k j=_
  exact zNG (zEK ok hh (m+d) zRU).ol hh fun q=>by have:=hne q.1;omega
theorem zLm (ok:zCP nb nh 0 0 s) {k j m:Nat} (hkm:k<m):∀ d,m+d≤nh→zA3 (zBt nb (m+d) s).out k j=zA3 (zBt nb m s).out k j
 | 0,_=>rfl
 | d+1,hd=>by
  have ih:=zLm ok (j:=j) hkm d zRU
  rw [← ih]
  show zA3 (stepsP (m+d) nb (zBt nb (m+d) s)).out k j=_
  have:=zIF (zC0 ok (m+d) zRU) zRU (k:=k) (j:=j) (m:=0) zRU nb zRU
  rw [Nat.zero_add] at this
  exact this
theorem end_has (ok:zCP nb nh 0 0 s) {k j:Nat} (hh:h<nh) (hi:i<nb) (hb:Bef h (i+1) k j):zA3 (zBt nb nh s).out k j=zA3 (zCF h i (stepsP h i (zBt nb h s))).out k j:=by
 unfold Bef at hb
 have h1:=zLm ok (k:=k) (j:=j) (m:=h+1) zRU (nh - (h+1)) zRU
 rw [show h+1+(nh - (h+1))=nh by omega] at h1
 rw [h1]
 show zA3 (stepsP h nb (zBt nb h s)).out k j=_
 have h2:=zIF (zC0 ok h zRU) hh (k:=k) (j:=j) (m:=i+1) zRU (nb - (i+1)) zRU
 rw [show i+1+(nb - (i+1))=nb by omega] at h2
 rw [h2]
 rfl
end
section
variable {c : Cov} (h0:zAp c=0) (hs:Small c) (hc:zC1 (zAu c) (zCs c) (zAk c)=true)
include h0 hs hc
theorem zLH : zCP c.beds.length c.hours.length 0 0 (zAi c)∧zGv c.beds.length c.hours.length (zAi c) 0 0 (zAi c)∧zGR c.beds.length c.hours.length (zAi c) 0 0 (zAi c):=by
 have hf:=zAy h0
 have ok0:=zCV hf hs (zDt hf)
 have hz:∀ k,(zAi c).out.getD k []=[]:=fun k=>by
  show (List.replicate c.hours.length []).getD k []=[]
  rw [List.getD_eq_getElem?_getD,List.getElem?_replicate]
  split<;>rfl
 have hq:∀ j k,zBY (zAi c).out j k=0:=fun j k=>Flow.zAT fun q _=>by rw [hz];rfl
 have hn:∀ j k,j<c.beds.length→k<c.hours.length→0≤ndF (zAi c) j k:=fun j k hj hk=>by
  have h9:=ok0.nr ((zAi c).nds.getD j []) (by rw [Flow.zm (by rw [ok0.nl];exact hj)];exact List.getElem_mem _)
  unfold ndF
  rw [Flow.zm (by rw [h9.len];omega)]
  exact (h9.big _ (List.getElem_mem _)).1
 refine ⟨ok0,⟨(zEp ok0).1 hc,fun j k _ hk=>by omega,fun j _=>?_,fun k _=>by rw [hz];simp,fun k=>by rw [hz];simp⟩,fun j k hj hk=>?_,fun j k hj hk=>?_,fun _ _ _ _ _=>rfl⟩
 ·rw [hq,Int.add_zero]
 ·have:=hn j k hj hk
  rw [hq];omega
 ·rw [hq];omega
theorem zJ4 {j k:Nat} (hj:j<c.beds.length) (hk:k<c.hours.length):ndF (zAi c) j k=(needG c (c.beds.getD j default) (k+1)).2:=zE8 hj k hk
theorem zOj : zBN c (zAC (zAt c).1)=2:=by
 have hf:=zAy h0
 obtain ⟨ok0,iv0,mo0⟩:=zLH h0 hs hc
 have h1:=(zED h0 hs hc).1
 unfold zBN
 rw [if_pos (zDs h0 h1),if_pos ((zHa hf).2 fun i hi j hj=>?_)]
 rw [zDw h0 hc]
 dsimp only
 have iv:=zFE iv0 ok0 c.hours.length (Nat.le_refl _)
 have mo:=zHG mo0 iv0 ok0 c.hours.length (Nat.le_refl _)
 have h2:=mo.time i j hi hj
 have h3:=zLa iv.can hi hj fun q hq=>iv.past i q hi (.inl zRU)
 rw [zJ4 h0 hs hc hi hj] at h2
 omega
theorem zNZ {X:List (List Int)} (hok:zA2 c (zAC X)=true) (hsafe:∀ i,i<c.beds.length→∀ j,j<c.hours.length→(needG c (c.beds.getD i default) (j+1)).2≤zBY X i j) (hcnt:∀ i,i<c.beds.length→zBY X i c.hours.length=(needG c (c.beds.getD i default) c.hours.length).2) {h i:Nat} (hh:h<c.hours.length) (hi:i<c.beds.length) (hag:∀ k j,k<c.hours.length→j<c.beds.length→Bef h i k j→zA3 (zAt c).1 k j=zA3 X k j) (hx:zA3 X h i=true):zA3 (zAt c).1 h i=true:=by
 have hf:=zAy h0
 obtain ⟨ok0,iv0,mo0⟩:=zLH h0 hs hc
 rw [zDw h0 hc] at hag ⊢
 dsimp only at hag ⊢
 have okh:=zC0 ok0 h zRU
 have ivh:=zFE iv0 ok0 h zRU
 have moh:=zHG mo0 iv0 ok0 h zRU
 have ok:=zEK okh hh i zRU
 have iv:=zGk ivh okh hh i zRU
 have mo:=zHF moh ivh okh hh i zRU
 have hend:=fun k j hb=>end_has (h:=h) (i:=i) ok0 (k:=k) (j:=j) hh hi hb
 rw [hend h i (.inr ⟨rfl,by omega⟩)]
 have hag2:∀ k j,k<c.hours.length→j<c.beds.length→Bef h i k j→zA3 (stepsP h i (zBt c.beds.length h (zAi c))).out k j=zA3 X k j:=fun k j hk hj hb=>by
  rw [← hag k j hk hj hb,hend k j (by unfold Bef at hb ⊢;omega)]
  exact (zNG ok.ol hh (by unfold Bef at hb;omega)).symm
 clear hend hag
 generalize stepsP h i (zBt c.beds.length h (zAi c))=s at *
 have hbef:∀ k j,zA3 s.out k j=true→Bef h i k j:=fun k j q=>zPs iv q
 have hno:zA3 s.out h i=false:=by
  cases e:zA3 s.out h i with
  | false=>rfl
  | true=>have:=hbef _ _ e;unfold Bef at this;omega
 -- what is past,and this one
 have hP:∀ k j,k<c.hours.length→j<c.beds.length→(if zA3 s.out k j then (1:Int) else 0)+(if j=i∧k=h then 1 else 0)≤if zA3 X k j then 1 else 0:=fun k j hk hj=>by
  by_cases e:j=i∧k=h
  ·obtain ⟨rfl,rfl⟩:=e
   simp [hno,hx]
  ·rw [if_neg e]
   cases e2:zA3 s.out k j with
   | false=>simp only [Bool.false_eq_true,if_false];split<;>omega
   | true=>rw [← hag2 k j hk hj (hbef k j e2),e2];simp
 have hrow:=fun k (hk:k<c.hours.length)=>zN3 hf hok hk
 have hlen:=fun k (hk:k<c.hours.length)=>(zEj hf hok k hk).2.2.1
 have hcold:∀ k j,k<c.hours.length→j<c.beds.length→zA3 X k j=true→myF (zAi c) j k=true:=fun k j hk hj q=>by
  show ((zCs c).getD j []).getD k false=true
  rw [zJK hj];exact zLn hf hok hk q
 have hsrow:∀ k,k<c.hours.length→(sumL (List.range c.beds.length) fun j=>if zA3 s.out k j then 1 else 0)=(s.out.getD k []).length:=fun k hk=>zMT _ (iv.rows k).1 fun x hx=>by
  obtain ⟨q,e,h1,_⟩:=(iv.rows k).2 x hx
  exact ⟨q,e,h1⟩
 have hrest:∀ k,k<c.hours.length→(sumL (List.range c.beds.length) fun j=>(if zA3 X k j then (1:Int) else 0) - ((if zA3 s.out k j then 1 else 0)+(if j=i∧k=h then 1 else 0)))≤hdF s k - (if k=h then 1 else 0):=fun k hk=>by
  rw [Flow.zEJ,hrow k hk,Flow.zBQ,hsrow k hk]
  have h1:=iv.work k hk
  have h2:=hlen k hk
  have h3:(sumL (List.range c.beds.length) fun j=>if j=i∧k=h then (1:Int) else 0)=if k=h then 1 else 0:=by
   by_cases e:k=h
   ·rw [if_pos e]
    have h9:=Flow.zCp (c:=(1:Int)) (List.nodup_range (n:=c.beds.length)) (List.mem_range.2 hi)
    refine Eq.trans (zt _ fun j _=>?_) h9
    by_cases e2:j=i<;>simp [e,e2]
   ·rw [if_neg e]
    exact Flow.zAT fun j _=>by rw [if_neg (fun q=>e q.2)]
  rw [h3]
  have h4:hdF (zAi c) k=(zAk c).getD k 0:=rfl
  omega
 have hcol:∀ j k,j<c.beds.length→k≤c.hours.length→zBY s.out j k+(if j=i∧h<k then 1 else 0)≤zBY X j k:=fun j k hj hk=>by
  induction k with
  | zero=>simp [zBY,sumL]
  | succ k ih =>
   have ih:=ih zRU
   have h1:=hP k j zRU hj
   rw [zCl,zCl,Flow.zAD,Flow.zAD,← zCl,← zCl]
   have e3:(if j=i∧h<k+1 then (1:Int) else 0)=(if j=i∧h<k then 1 else 0)+(if j=i∧k=h then 1 else 0):=by
    by_cases a:j=i<;>by_cases b:h<k<;>by_cases d:k=h<;>simp [a,b,d]<;>omega
   rw [e3]
   omega
 have htake:zEf s h i=true:=by
  unfold zEf
  simp only [Bool.and_eq_true,decide_eq_true_eq]
  refine ⟨?_,?_,?_⟩
  ·show myF s i h=true
   rw [mo.my i h hi hh (by unfold Bef;omega)]
   exact hcold h i hh hi hx
  ·show 0<hdF s h
   have h1:=hrest h hh
   rw [if_pos rfl] at h1
   have h2:0≤(sumL (List.range c.beds.length) fun j=>(if zA3 X h j then (1:Int) else 0) - ((if zA3 s.out h j then 1 else 0)+(if j=i∧h=h then 1 else 0))):=Flow.zA7 fun j hj=>by
    have:=hP h j hh (List.mem_range.1 hj);omega
   omega
  ·rw [(ok.nr (s.nds.getD i []) (by rw [Flow.zm (by rw [ok.nl];exact hi)];exact List.getElem_mem _)).max zRU]
   show 0<ndF s i (c.hours.length - 1)
   have h1:=iv.cnt i hi
   rw [zJ4 h0 hs hc hi zRU,Nat.sub_add_cancel zRU,← hcnt i hi] at h1
   have h2:=hcol i c.hours.length hi (Nat.le_refl _)
   rw [if_pos ⟨rfl,hh⟩] at h2
   omega
 have ok2:zCP c.beds.length c.hours.length 0 0 ⟨zFz s i,zCy s h i,zCH s h,List.replicate c.hours.length []⟩:=⟨(ok.zGd hi).1,(ok.zGg hi).1,(ok.zEG hh htake).1,by simp,(ok.zGd hi).2,(ok.zGg hi).2,(ok.zEG hh htake).2,fun k=>by
  rw [List.getD_eq_getElem?_getD,List.getElem?_replicate]
  split<;>simp⟩
 have hcan:zC1 (zFz s i) (zCy s h i) (zCH s h)=true:=by
  refine (zEp ok2).2 ?_
  rw [zHm ok hi,zHl ok hi,zMi ok hh]
  have hXY:∀ k j,k<c.hours.length→j<c.beds.length→(if (zA3 X k j && !zA3 s.out k j && !decide (j=i∧k=h))=true then (1:Int) else 0)=(if zA3 X k j then (1:Int) else 0) - ((if zA3 s.out k j then 1 else 0)+(if j=i∧k=h then 1 else 0)):=fun k j hk hj=>by
   have h1:=hP k j hk hj
   by_cases e:j=i∧k=h
   ·have d:decide (j=i∧k=h)=true:=decide_eq_true e
    rw [if_pos (c:=j=i∧k=h) e] at h1 ⊢
    rw [d]
    revert h1
    cases zA3 X k j<;>cases zA3 s.out k j<;>simp
   ·have d:decide (j=i∧k=h)=false:=decide_eq_false e
    rw [if_neg (c:=j=i∧k=h) e] at h1 ⊢
    rw [d]
    revert h1
    cases zA3 X k j<;>cases zA3 s.out k j<;>simp
  refine can_of (fun k j=>zA3 X k j && !zA3 s.out k j && !decide (j=i∧k=h)) (fun k j hk hj hq=>?_) (fun j k hj hk=>?_) fun k hk=>?_
  ·(try dsimp only at hq ⊢)
   simp only [Bool.and_eq_true,Bool.not_eq_true',decide_eq_false_iff_not] at hq
   rw [if_neg hq.2,mo.my j k hj hk fun q=>?_]
   ·exact hcold k j hk hj hq.1.1
   ·rw [hag2 k j hk hj q,hq.1.1] at hq
    exact absurd hq.1.2 zRf
  ·(try dsimp only)
   have e1:(sumL (List.range k) fun q=>if (zA3 X q j && !zA3 s.out q j && !decide (j=i∧q=h))=true then (1:Int) else 0)=zBY X j k - (zBY s.out j k+if j=i∧h<k then 1 else 0):=by
    rw [zt k fun q hq=>hXY q j zRU hj,Flow.zEJ,Flow.zBQ,← zCl,← zCl]
    congr 2
    by_cases e:j=i∧h<k
    ·rw [if_pos e]
     have h9:=Flow.zCp (c:=(1:Int)) (List.nodup_range (n:=k)) (List.mem_range.2 e.2)
     refine Eq.trans (zt _ fun q _=>?_) h9
     by_cases e2:q=h<;>simp [e.1,e2]
    ·rw [if_neg e]
     exact Flow.zAT fun q hq=>by rw [if_neg (fun r=>e ⟨r.1,by have:=List.mem_range.1 hq;omega⟩)]
   rw [e1]
   have h1:=mo.nd j k hj hk
   rw [zJ4 h0 hs hc hj hk] at h1
   have h2:=hsafe j hj k hk
   have h3:=hcol j k hj zRU
   have h4:=zFW (xss:=s.out) (i:=j) (k:=k) (c.hours.length - k)
   rw [show k+(c.hours.length - k)=c.hours.length by omega] at h4
   by_cases e:j=i
   ·rw [if_pos e]
    subst e
    rw [h1]
    split at h3
    ·rw [if_pos zRn];omega
    ·rw [if_neg zRn];omega
   ·rw [if_neg e,if_neg (fun q=>e q.1)]
    rw [if_neg (fun q=>e q.1)] at h3
    omega
  ·(try dsimp only)
   rw [zt c.beds.length fun j hj=>hXY k j hk hj]
   have h1:=hrest k hk
   by_cases e:k=h
   ·subst e;rw [if_pos rfl] at h1 ⊢;exact h1
   ·rw [if_neg e] at h1 ⊢;omega
 unfold zCF
 rw [htake,if_pos rfl,hcan,if_pos rfl]
 dsimp only
 rw [zIa ok.ol hh,if_pos ⟨rfl,rfl⟩]
end
theorem zNS {nb:Nat} (f:Int→Int):∀ r:List Int,r.Pairwise (· < ·)→(∀ x∈r,∃ j:Nat,x=(j:Int)∧j<nb)→sumL r f=sumL (List.range nb) fun j=>if r.contains (j:Int) then f j else 0
 | [],_,_=>(Flow.zAT fun _ _=>by simp).symm
 | x::r,h1,h2=>by
  obtain ⟨h3,h4⟩:=List.pairwise_cons.1 h1
  have ih:=zNS f r h4 fun y hy=>h2 y (List.mem_cons_of_mem _ hy)
  obtain ⟨q,rfl,hq⟩:=h2 x List.mem_cons_self
  have e:(sumL (List.range nb) fun j=>if (((q:Int)::r).contains (j:Int)) then f j else 0)=sumL (List.range nb) fun j=>(if j=q then f q else 0)+(if r.contains (j:Int) then f j else 0):=Flow.zt fun j _=>by
   by_cases e:j=q
   ·subst e
    have h5:¬ (j:Int)∈r:=fun h=>by have:=h3 _ h;omega
    simp [h5]
   ·have:¬ (j:Int)=(q:Int):=by omega
    rw [if_neg e,Int.zero_add]
    simp [List.contains_cons,this]
  rw [e,Flow.zBQ,Flow.zCp List.nodup_range (List.mem_range.2 hq),← ih];rfl
theorem zJT {c:Cov}:∀ l:List Int,∀ z:Sp,l.foldl (zDa c) z=⟨z.lo+sumL l fun x=>c.rate * (zDX c x).lo,z.hi+sumL l fun x=>c.rate * (zDX c x).hi⟩
 | [],z=>by simp [sumL]
 | x::l,z=>by
  rw [List.foldl_cons,zJT l]
  simp only [zDa,sumL,Int.add_assoc]
theorem zLT {c:Cov} {xss:List (List Int)} (hf:zBm c) (hok:zA2 c (zAC xss)=true) (f:Int→Int):sumL (zEa (zAC xss) (zAC xss).length) f=sumL (List.range c.beds.length) fun (j:Nat)=>zBY xss j c.hours.length * f j:=by
 have hl:xss.length=c.hours.length:=by have:=(zAj.1 hok).1;simpa [zAC] using this
 have e1:zEa (zAC xss) (zAC xss).length=(List.range xss.length).flatMap fun h=>xss.getD h []:=by
  unfold zEa
  rw [List.take_length]
  unfold zAC
  rw [List.flatMap_map]
  have:xss=(List.range xss.length).map fun h=>xss.getD h []:=by
   apply List.ext_getElem
   ·simp
   ·intro i h1 h2;simp [List.getD_eq_getElem?_getD,h1]
  conv=>lhs;rw [this]
  rw [List.flatMap_map]
 rw [e1,Flow.zD8,hl]
 have e2:sumL (List.range c.hours.length) (fun h=>sumL (xss.getD h []) f)=sumL (List.range c.hours.length) fun h=>sumL (List.range c.beds.length) fun (j:Nat)=>if zA3 xss h j then f j else 0:=zt _ fun h hh=>by
  obtain ⟨h1,h2,_⟩:=zEj hf hok h hh
  exact zNS f _ h1 h2
 rw [e2,Flow.zE4]
 refine zt _ fun j _=>?_
 rw [zCl]
 have key:∀ k,(sumL (List.range k) fun h=>if zA3 xss h j then f j else 0)=(sumL (List.range k) fun h=>if zA3 xss h j then (1:Int) else 0) * f j:=fun k=>by
  induction k with
  | zero=>simp [sumL]
  | succ k ih =>
   rw [Flow.zAD,Flow.zAD,ih,Int.add_mul]
   congr 1
   split<;>simp
 exact key _
theorem zK3 {c:Cov} {xss:List (List Int)} (h0:zAp c=0) (hok:zA2 c (zAC xss)=true):zC3 c (zAC xss)=⟨sumL (List.range c.beds.length) fun (j:Nat)=>zBY xss j c.hours.length * (c.rate * (zDX c j).lo),sumL (List.range c.beds.length) fun (j:Nat)=>zBY xss j c.hours.length * (c.rate * (zDX c j).hi)⟩:=by
 have hf:=zAy h0
 unfold zC3
 rw [if_pos (zDs h0 hok)]
 unfold zEs
 rw [zJT,zLT hf hok,zLT hf hok]
 simp
theorem water_le {c:Cov} {xss yss:List (List Int)} (h0:zAp c=0) (hx:zA2 c (zAC xss)=true) (hy:zA2 c (zAC yss)=true) (h:∀ j,j<c.beds.length→zBY xss j c.hours.length≤zBY yss j c.hours.length):(zC3 c (zAC xss)).lo≤(zC3 c (zAC yss)).lo∧(zC3 c (zAC xss)).hi≤(zC3 c (zAC yss)).hi:=by
 have hf:=zAy h0
 have hb:=hf.beds
 have hr:=hf.rate
 rw [zx] at hr
 rw [zK3 h0 hx,zK3 h0 hy]
 have hl:=fun j (hj:j<c.beds.length)=>zJ9 (zKV h0) (show j<c.t.length by omega)
 constructor
 ·exact Flow.zAs fun j hj=>Int.mul_le_mul_of_nonneg_right (h j (List.mem_range.1 hj)) (Int.mul_nonneg hr.1 (by have:=hl j (List.mem_range.1 hj);omega))
 ·exact Flow.zAs fun j hj=>Int.mul_le_mul_of_nonneg_right (h j (List.mem_range.1 hj)) (Int.mul_nonneg hr.1 (by have:=hl j (List.mem_range.1 hj);omega))
end Go.Proofs.YtdigopgncfhiaaaGreatDoor
namespace Go.Proofs.YtdigopgncfhiaaaGreatDoor
open Go.RowKit
open Flow (sumL)
set_option maxRecDepth 20000
def zGN (xss:List (List Int)) (r m j:Nat):Int:=sumL (List.range r) (fun h=>((xss.getD h []).count (j:Int):Int))+(((xss.getD r []).take m).count (j:Int):Int)
def zGO (xss:List (List Int)) (nb r m:Nat):List Int:=(List.range nb).map (zGN xss r m)
section
variable {xss : List (List Int)} {nb r m j:Nat}
theorem zRJ : zGN xss r (xss.getD r []).length j=zGN xss (r+1) 0 j:=by
 unfold zGN
 rw [Flow.zAD,List.take_length];simp
theorem zL1 {x:Int} (hx:(xss.getD r [])[m]?=some x):zGN xss r (m+1) j=zGN xss r m j+(if x=(j:Int) then 1 else 0):=by
 unfold zGN
 rw [List.take_add_one,hx,Option.toList_some,List.count_append,List.count_singleton]
 simp only [beq_iff_eq]
 split<;>simp_all<;>omega
theorem zRL : zGO xss nb r (xss.getD r []).length=zGO xss nb (r+1) 0:=by
 unfold zGO
 exact List.map_congr_left fun j _=>zRJ
theorem zFX : (zGO xss nb r m).length=nb:=by simp [zGO]
theorem zGp (hj:j<nb):(zGO xss nb r m)[j]?=some (zGN xss r m j):=by simp [zGO,hj]
theorem cntL_set {x:Int} (hx:(xss.getD r [])[m]?=some x) (hj:j<nb) (e:x=(j:Int)):(zGO xss nb r m).set j (zGN xss r m j+1)=zGO xss nb r (m+1):=by
 apply List.ext_getElem?
 intro i
 rw [List.getElem?_set,zFX]
 by_cases h:j=i
 ·subst h
  rw [if_pos rfl,if_pos hj,zGp hj,zL1 hx,if_pos e]
 ·rw [if_neg h]
  by_cases hi:i<nb
  ·rw [zGp hi,zGp hi,zL1 hx,if_neg zRU,Int.add_zero]
  ·rw [List.getElem?_eq_none (by rw [zFX];omega),List.getElem?_eq_none (by rw [zFX];omega)]
theorem zRK : zGO xss nb 0 0=List.replicate nb 0:=by
 unfold zGO
 rw [show zGN xss 0 0=fun _=>(0:Int) from funext fun j=>by simp [zGN,sumL],List.map_const',List.length_range]
theorem zMw (h:∀ s∈xss,s.length≤20):0≤zGN xss r m j∧zGN xss r m j≤20 * (r:Int)+20:=by
 have hr:∀ k,((xss.getD k []).count (j:Int):Int)≤20:=fun k=>by
  have h1:(xss.getD k []).count (j:Int)≤(xss.getD k []).length:=List.count_le_length
  have h2:(xss.getD k []).length≤20:=by
   rw [List.getD_eq_getElem?_getD]
   cases e:xss[k]? with
   | none=>simp
   | some s=>exact h s (List.mem_of_getElem? e)
  omega
 have h3:((xss.getD r []).take m).count (j:Int)≤(xss.getD r []).count (j:Int):=by
  have h:=congrArg (List.count (j:Int)) (List.take_append_drop m (xss.getD r []))
  rw [List.count_append] at h
  omega
 have h4:=hr r
 have h5:∀ k,0≤sumL (List.range k) (fun h=>((xss.getD h []).count (j:Int):Int))∧sumL (List.range k) (fun h=>((xss.getD h []).count (j:Int):Int))≤20 * (k:Int):=fun k=>by
  induction k with
  | zero=>simp [sumL]
  | succ k ih=>have:=hr k;rw [Flow.zAD];omega
 have:=h5 r
 unfold zGN;omega
theorem zH2 (h:∀ k,(xss.getD k []).Pairwise (· < ·)) (k:Nat):zGN xss k 0 j=zBY xss j k:=by
 have hz:(((xss.getD k []).take 0).count (j:Int):Int)=0:=by simp
 unfold zGN zBY
 rw [hz,Int.add_zero]
 refine zt k fun q _=>?_
 have hn:(xss.getD q []).Nodup:=(h q).imp fun h=>by omega
 by_cases hm:(j:Int)∈xss.getD q []
 ·rw [hn.count,if_pos hm,if_pos (List.contains_iff_mem.2 hm)];rfl
 ·rw [hn.count,if_neg hm,if_neg (fun q=>hm (List.contains_iff_mem.1 q))];rfl
end
theorem safe_two {c:Cov} {pl:List Sli} (h:zBN c pl=2):(zAm c pl zAa).length=0:=by
 unfold zBN at h
 split at h
 ·split at h
  ·assumption
  ·split at h<;>omega
 ·omega
set_option maxHeartbeats 4000000 in
theorem zKH (c:Cov) (A:Option Addr) (ca:Nat) (B:Option Addr) (cb:Nat) (C:Option Addr) (cc:Nat) (pl:List Sli) (P:Option Addr) (cp:Nat) (w:World) (hb:c.beds.length≤20) (hp:zBA w P pl) (hl:pl.length≤12) (hrl:∀ s∈pl,s.xs.length≤20) (hin:∀ s∈pl,∀ x∈s.xs,∃ j:Nat,x=(j:Int)∧j<c.beds.length) :
  zDV encI 1 (zGO (pl.map Sli.xs) c.beds.length pl.length 0) (fun v=>v) Tryz.prog 28 [zAQ c A ca B cb C cc,.slice P pl.length cp] w:=by
 refine Ret.newsl ?_
 have hpp:=hp.p
 have hat:∀ i s,pl[i]?=some s→(pl.map Sli.xs).getD i []=s.xs:=fun i s h=>by
  rw [List.getD_eq_getElem?_getD,List.getElem?_map,h];rfl
 have hrl2:∀ s∈pl.map Sli.xs,s.length≤20:=fun s hs=>by
  obtain ⟨z,hz,rfl⟩:=List.mem_map.1 hs
  exact hrl z hz
 have hcl:=fun r m=>zFX (xss:=pl.map Sli.xs) (nb:=c.beds.length) (r:=r) (m:=m)
 have hz0:=zRK (xss:=pl.map Sli.xs) (nb:=c.beds.length)
 have hstep:=fun r m j x h1 h2 h3=>cntL_set (xss:=pl.map Sli.xs) (nb:=c.beds.length) (r:=r) (m:=m) (j:=j) (x:=x) h1 h2 h3
 have hnext:=fun r=>zRL (xss:=pl.map Sli.xs) (nb:=c.beds.length) (r:=r)
 have hca:=fun r m j h=>zGp (xss:=pl.map Sli.xs) (nb:=c.beds.length) (r:=r) (m:=m) (j:=j) h
 have hci:=fun r m j=>zMw (xss:=pl.map Sli.xs) (r:=r) (m:=m) (j:=j) hrl2
 generalize hCL:zGO (pl.map Sli.xs) c.beds.length=CL at *
 generalize hCO:zGN (pl.map Sli.xs)=CO at *
 unfold zAQ zH
 (refine zM (n:=43) Tryz.func28 rfl rfl rfl ?_)
 (repeat' (first|((with_reducible refine zG ?_);first|refine zE rfl rfl rfl rfl rfl ?_|refine zC rfl rfl rfl rfl rfl ?_|(refine zK rfl rfl rfl rfl rfl ?_;refine ⟨_,rfl,?_⟩)|refine zd rfl rfl rfl rfl rfl ?_|refine u_makeR (enc:=encI) (0:Int) (n0:=c.beds.length) rfl rfl rfl rfl rfl rfl rfl rfl rfl rfl rfl rfl zRU (fun gr=>?_)|refine zp rfl rfl rfl rfl rfl ?_|(refine zAI rfl rfl rfl rfl rfl rfl (fun b=>?_)))|(with_reducible first|refine zI ?_|refine zB ?_|refine zD ?_|refine zA ?_|refine zN ?_)))
 rw [← hz0]
 refine zq (ι:=Nat) [1,5,14,15] rfl (fun r=>r≤pl.length) (fun r=>[(16,.int .i64 (r:Int))]) (fun r=>[.row encI 1 3 (.slice (some ⟨gr,0,none⟩) c.beds.length c.beds.length) (CL r 0)]) (fun r=>pl.length - r) 0 (Nat.zero_le _) zRS zRQ ?_
 rintro r hr
 simp only [zAn,List.cons_append,List.nil_append]
 by_cases hlt:r<pl.length
 ·obtain ⟨s,hs⟩:∃ s,pl[r]?=some s:=⟨_,List.getElem?_eq_getElem hlt⟩
  have hsm:=List.mem_of_getElem? hs
  have hxr:=hat r s hs
  have hsl:=hrl s hsm
  have hrow:=hp.rows s hsm
  have hins:=hin s hsm
  have hnx:=hnext r
  rw [hxr] at hnx
  obtain ⟨bb,o,rfl,_,_⟩:=hpp.at_ hlt
  have:InS w bb o zAA 1 pl:=⟨hpp⟩
  obtain ⟨sA,xs,sc⟩:=s
  have:zAP pl r ⟨sA,xs,sc⟩:=⟨hs⟩
  simp only at hsl hrow hxr hins hnx
  (repeat' (first|((with_reducible refine zG ?_);first|refine zE rfl rfl rfl rfl rfl ?_|refine zC rfl rfl rfl rfl rfl ?_|(refine zK rfl rfl rfl rfl rfl ?_;refine ⟨_,rfl,?_⟩)|(refine zQ rfl rfl rfl rfl rfl rfl rfl (fun h=>?_) (fun h=>?_)<;>(dsimp only [cmpP] at h;(try (exfalso;omega))))|refine ze rfl rfl rfl rfl rfl rfl rfl zRU ?_|refine zp rfl rfl rfl rfl rfl ?_)|(with_reducible first|refine zI ?_|refine zB ?_|refine zD ?_|refine zA ?_|refine zP ?_|refine zN ?_)|((with_reducible refine zJ ?_ ?_);(· exact rfl))))
  refine zq (ι:=Nat) [1,5,14,15,16,20,21] rfl (fun m=>m≤xs.length) (fun m=>[(22,.int .i64 (m:Int))]) (fun m=>[.row encI 1 3 (.slice (some ⟨gr,0,none⟩) c.beds.length c.beds.length) (CL r m)]) (fun m=>xs.length - m) 0 (Nat.zero_le _) zRS zRQ ?_
  rintro m hm
  simp only [zAn,List.cons_append,List.nil_append]
  by_cases hml:m<xs.length
  ·obtain ⟨x,hx⟩:∃ x,xs[m]?=some x:=⟨_,List.getElem?_eq_getElem hml⟩
   obtain ⟨j,rfl,hj⟩:=hins x (List.mem_of_getElem? hx)
   obtain ⟨b2,o2,rfl,_,_⟩:=hrow.at_ hml
   have:InS w b2 o2 encI 1 xs:=⟨hrow⟩
   have:zAP xs m (j:Int):=⟨hx⟩
   have:zAP (CL r m) j (CO r m j):=⟨hca r m j hj⟩
   have hc1:=hci r m j
   have hc2:=hcl r m
   have hst:=hstep r m j (j:Int) (by rw [hxr];exact hx) hj rfl
   (repeat' (first|((with_reducible refine zG ?_);first|refine zE rfl rfl rfl rfl rfl ?_|refine zC rfl rfl rfl rfl rfl ?_|(refine zK rfl rfl rfl rfl rfl ?_;refine ⟨_,rfl,?_⟩)|refine zAg rfl rfl rfl rfl rfl rfl ?_|(refine zQ rfl rfl rfl rfl rfl rfl rfl (fun h=>?_) (fun h=>?_)<;>(dsimp only [cmpP] at h;(try (exfalso;omega))))|refine zCR (enc:=encI) (i:=j) (CO r m j+1) rfl rfl rfl rfl rfl rfl rfl rfl zRU ?_|refine zg rfl rfl rfl rfl rfl rfl zRU ?_|refine zCX rfl rfl rfl rfl rfl rfl (IntWalk.i64_in _ zRU) ?_|refine ze rfl rfl rfl rfl rfl rfl rfl zRU ?_|refine zp rfl rfl rfl rfl rfl ?_)|(with_reducible first|refine zI ?_|refine zB ?_|refine zD ?_|refine zA ?_|refine zP ?_|refine zN ?_|refine zi ?_)|((with_reducible refine zJ ?_ ?_);(· exact rfl))))
   rw [hst]
   exact zc (ι:=Nat) (m+1) zRU zRU zRS zRQ
  ·obtain rfl:m=xs.length:=by omega
   rw [hnx]
   (repeat' (first|((with_reducible refine zG ?_);first|refine zE rfl rfl rfl rfl rfl ?_|(refine zQ rfl rfl rfl rfl rfl rfl rfl (fun h=>?_) (fun h=>?_)<;>(dsimp only [cmpP] at h;(try (exfalso;omega))))|refine zg rfl rfl rfl rfl rfl rfl zRU ?_)|(with_reducible first|refine zI ?_|refine zB ?_|refine zD ?_|refine zA ?_|refine zk ?_|refine zi ?_|refine zR ?_|refine zY ?_)|((with_reducible refine zF ?_ ?_);(· exact rfl))))
   exact zc (ι:=Nat) (r+1) zRU zRU zRS zRQ
 ·obtain rfl:r=pl.length:=by omega
  (repeat' (first|((with_reducible refine zG ?_);first|refine zE rfl rfl rfl rfl rfl ?_|refine zC rfl rfl rfl rfl rfl ?_|(refine zQ rfl rfl rfl rfl rfl rfl rfl (fun h=>?_) (fun h=>?_)<;>(dsimp only [cmpP] at h;(try (exfalso;omega)))))|(with_reducible first|refine zI ?_|refine zB ?_|refine zD ?_|refine zA ?_|refine za ?_|refine zk ?_|refine zR ?_|refine zY ?_)|((with_reducible refine zF ?_ ?_);(· exact rfl))))
  exact zU zRZ (some ⟨gr,0,none⟩,c.beds.length) trivial (by simp [resV,hcl]) (fun _ h=>(h.zCK (enc:=encI) zRT).sub zRQ)
end Go.Proofs.YtdigopgncfhiaaaGreatDoor
