/- C41 -/
import Derived.Test.YtdigopgncfhiaaaGreatDoorC37
import Derived.Test.YtdigopgncfhiaaaGreatDoorC31
set_option linter.unusedSimpArgs false
set_option linter.unusedVariables false
namespace Go.Proofs.YtdigopgncfhiaaaGreatDoor
open Go.RowKit
open Flow (lackF zBq sumL)
theorem zLj {f:Nat→Int} (h:∀ i,0≤f i) (k:Nat):∀ d,sumL (List.range k) f≤sumL (List.range (k+d)) f
 | 0=>Int.le_refl _
 | d+1=>by have:=zLj h k d;have:=h (k+d);rw [← Nat.add_assoc,Flow.zAE];omega
theorem zQ9 {f:Nat→Int} {k n:Nat} (h:∀ i,0≤f i) (hk:k≤n):sumL (List.range k) f≤sumL (List.range n) f:=by
 have:=zLj h k (n - k)
 rwa [show k+(n - k)=n by omega] at this
theorem can_of {nb nh:Nat} {nd:Nat→Nat→Int} {my:Nat→Nat→Bool} {hd:Nat→Int} (X:Nat→Nat→Bool) (hX:∀ h j,h<nh→j<nb→X h j=true→my j h=true) (hn:∀ j k,j<nb→k<nh→nd j k≤sumL (List.range k) fun h=>if X h j then 1 else 0) (hh:∀ h,h<nh→(sumL (List.range nb) fun j=>if X h j then 1 else 0)≤hd h):zHl nb nh nd my hd:=by
 intro m
 have key:∀ j,j<nb→(lackF (nd j) (my j) m nh).1≤sumL (List.range nh) fun h=>if m h && X h j then 1 else 0:=fun j hj=>by
  refine zDe (Flow.zBE fun _ _=>by split<;>omega) fun k hk=>?_
  have h1:=hn j k hj hk
  have h2:(sumL (List.range k) fun h=>if X h j then 1 else 0)≤sumL (List.range k) fun h=>(if my j h && !m h then 1 else 0)+(if m h && X h j then 1 else 0):=Flow.zA0 fun h hhk=>by
   have h9:=hX h j (by have:=List.mem_range.1 hhk;omega) hj
   cases hx:X h j
   ·simp;split<;>omega
   ·rw [h9 hx];cases m h<;>simp
  rw [Flow.zBW] at h2
  have h3:(sumL (List.range k) fun h=>if m h && X h j then 1 else 0)≤sumL (List.range nh) fun h=>if m h && X h j then 1 else 0:=zQ9 (fun _=>by split<;>omega) (by omega)
  unfold zBq
  omega
 have h1:=Flow.zA0 (l:=List.range nb) fun j hj=>key j (List.mem_range.1 hj)
 rw [Flow.zFR] at h1
 have h2:(sumL (List.range nh) fun h=>sumL (List.range nb) fun j=>if m h && X h j then 1 else 0)≤sumL (List.range nh) fun h=>if m h then hd h else 0:=Flow.zA0 fun h hhk=>by
  cases m h
  ·rw [Flow.zAa fun _ _=>by simp];simp
  ·simpa using hh h (List.mem_range.1 hhk)
 unfold zDd
 omega
theorem zM3 {nb:Nat}:∀ r:List Int,r.Pairwise (· < ·)→(∀ x∈r,∃ j:Nat,x=(j:Int)∧j<nb)→(sumL (List.range nb) fun j=>if r.contains (j:Int) then 1 else 0)=r.length
 | [],_,_=>Flow.zAa fun _ _=>by simp
 | x::r,h1,h2=>by
  obtain ⟨h3,h4⟩:=List.pairwise_cons.1 h1
  have ih:=zM3 r h4 fun y hy=>h2 y (List.mem_cons_of_mem _ hy)
  obtain ⟨q,rfl,hq⟩:=h2 x List.mem_cons_self
  have e:(sumL (List.range nb) fun j=>if (((q:Int)::r).contains (j:Int)) then 1 else 0)=sumL (List.range nb) fun j=>(if j=q then 1 else 0)+(if r.contains (j:Int) then 1 else 0):=Flow.zx fun j _=>by
   by_cases e:j=q
   ·subst e
    have:r.contains (j:Int)=false:=by
     rw [Bool.eq_false_iff]
     intro h
     have:=h3 _ (List.contains_iff_mem.1 h)
     omega
    have h5:¬ (j:Int)∈r:=fun h=>by have:=h3 _ h;omega
    simp [h5]
   ·have:¬ (j:Int)=(q:Int):=by omega
    rw [if_neg e,Int.zero_add]
    simp [List.contains_cons,this]
  rw [e,Flow.zBW,Flow.zC3 List.nodup_range (List.mem_range.2 hq),ih,List.length_cons]
  omega
def zBB (xss:List (List Int)) (h i:Nat):Bool:=(xss.getD h []).contains (i:Int)
theorem zE7 {c:Cov} {xss:List (List Int)} (hf:zBl c) (hok:zAz c (zm xss)=true):∀ h,h<c.hours.length→(xss.getD h []).Pairwise (· < ·)∧(∀ x∈xss.getD h [],∃ j:Nat,x=(j:Int)∧j<c.beds.length)∧((xss.getD h []).length:Int)≤(zAp c).getD h 0∧(xss.getD h []≠[]→(c.hours.map (·.cold)).getD h false=true):=fun h hh=>by
 obtain ⟨hl,hr⟩:=zAc.1 hok
 obtain ⟨u,hu⟩:∃ u,c.hours[h]?=some u:=⟨_,List.getElem?_eq_getElem hh⟩
 obtain ⟨s,hs⟩:∃ s,(zm xss)[h]?=some s:=⟨_,List.getElem?_eq_getElem (by omega)⟩
 have e:s.xs=xss.getD h []:=by rw [← zHv,zAW hs]
 have hb:=hf.beds
 have h1:=hr h u s hu hs
 unfold zDR at h1
 rw [e] at h1
 simp only [Bool.and_eq_true,Bool.or_eq_true,decide_eq_true_eq,List.all_eq_true,zAA] at h1
 obtain ⟨⟨⟨a1,a2⟩,a3⟩,a4⟩:=h1
 have hS:(zAp c).getD h 0=zFf u:=by unfold zAp;rw [getD_map hu]
 have hC:(c.hours.map (·.cold)).getD h false=u.cold:=by rw [getD_map hu]
 refine ⟨?_,fun x hx=>⟨x.toNat,by have:=a3 x hx;omega,by have:=a3 x hx;omega⟩,?_,fun hne=>?_⟩
 ·have h4:=zCq.1 a4
  have key:∀ d i,i+d+1<(xss.getD h []).length→(xss.getD h []).getD i 0<(xss.getD h []).getD (i+d+1) 0:=by
   intro d
   induction d with
   | zero=>intro i hi;exact h4 i hi
   | succ d ih =>
    intro i hi
    have:=ih i (by omega)
    have:=h4 (i+d+1) (by omega)
    rw [show i+(d+1)+1=i+d+1+1 by omega]
    omega
  rw [List.pairwise_iff_getElem]
  intro i j hi hj hij
  have:=key (j - i - 1) i (by omega)
  rw [show i+(j - i - 1)+1=j by omega,Flow.zt hi,Flow.zt hj] at this
  exact this
 ·rw [hS]
  unfold zFf
  rcases a2 with h9|h9
  ·rw [h9]
   have:=zD6 hf u (List.mem_of_getElem? hu)
   split<;>omega
  ·rw [h9,if_pos rfl];exact a1
 ·rw [hC]
  rcases a2 with h9|h9
  ·exact absurd (List.length_eq_zero_iff.1 h9) hne
  ·exact h9
theorem zOf {c:Cov} {xss:List (List Int)} (hf:zBl c) (hok:zAz c (zm xss)=true) {h:Nat} (hh:h<c.hours.length):(sumL (List.range c.beds.length) fun j=>if zBB xss h j then 1 else 0)=(xss.getD h []).length:=zM3 _ (zE7 hf hok h hh).1 (zE7 hf hok h hh).2.1
theorem zMM {c:Cov} {xss:List (List Int)} (hf:zBl c) (hok:zAz c (zm xss)=true) {h i:Nat} (hh:h<c.hours.length) (hx:zBB xss h i=true):(c.hours.map (·.cold)).getD h false=true:=(zE7 hf hok h hh).2.2.2 fun e=>by unfold zBB at hx;rw [e] at hx;cases hx
theorem safe_can {c:Cov} {xss:List (List Int)} (h0:zAr c=0) (hs:Small c) (hok:zAz c (zm xss)=true) (hsafe:∀ i,i<c.beds.length→∀ j,j<c.hours.length→(needG c (c.beds.getD i default) (j+1)).2≤zBe xss i j):zDG (zA2 c) (zC6 c) (zAp c)=true:=by
 have hf:=zA1 h0
 have ok0:=zCf hf hs (zD6 hf)
 refine (zFD ok0).2 (can_of (zBB xss) (fun h j hh hj hx=>?_) (fun j k hj hk=>?_) fun h hh=>?_)
 ·show ((zC6 c).getD j []).getD h false=true
  rw [zJk hj];exact zMM hf hok hh hx
 ·show ((zA2 c).getD j []).getD k 0≤_
  rw [zFV hj k hk];exact hsafe j hj k hk
 ·rw [zOf hf hok hh];exact (zE7 hf hok h hh).2.2.1
end Go.Proofs.YtdigopgncfhiaaaGreatDoor
namespace Go.Proofs.YtdigopgncfhiaaaGreatDoor
open Go.RowKit
open Flow (lackF zBq sumL)
set_option linter.unusedSectionVars false
def Bef (h i k j:Nat):Prop:=k<h∨(k=h∧j<i)
theorem zL6 {nb nh:Nat} {nd:Nat→Nat→Int} {my:Nat→Nat→Bool} {hd:Nat→Int} {j k:Nat} (hc:zHl nb nh nd my hd) (hj:j<nb) (hk:k<nh) (hp:∀ q,q<k→my j q=false):nd j k≤0:=by
 have hc9:=hc fun _=>false
 unfold zDd at hc9
 rw [Flow.zAa (l:=List.range nh) (fun _ _=>by simp)] at hc9
 have h1:=Flow.zD7 (l:=List.range nb) (f:=fun i=>(lackF (nd i) (my i) (fun _=>false) nh).1) (a:=j) (fun j _=>Flow.zBS _) (List.mem_range.2 hj)
 have h2:=Flow.zBz (nd:=nd j) (my:=my j) (sm:=fun _=>false) nh k hk
 have h3:zBq (my j) (fun _=>false) k=0:=Flow.zAa fun q hq=>by
  rw [hp q (List.mem_range.1 hq)];rfl
 omega
theorem zIz {nh h i k j:Nat} {s:PS} (ol:s.out.length=nh) (hh:h<nh):zBB (zIn s h i) k j=if k=h∧j=i then true else zBB s.out k j:=by
 unfold zBB zIn
 rw [zEq (by omega)]
 by_cases e:k=h
 ·subst e
  rw [if_pos rfl]
  by_cases e2:j=i
  ·subst e2
   rw [if_pos ⟨rfl,rfl⟩]
   simp
  ·have:¬ (j:Int)=(i:Int):=by omega
   rw [if_neg (fun q=>e2 q.2)]
   simp [List.contains_eq_mem,this]
 ·rw [if_neg e,if_neg (fun q=>e q.1)]
theorem zCz {xss:List (List Int)} {j k:Nat}:zBe xss j k=sumL (List.range k) fun h=>if zBB xss h j then 1 else 0:=rfl
theorem zMa {nh h i j:Nat} {s:PS} (ol:s.out.length=nh) (hh:h<nh) (hno:zBB s.out h i=false):∀ k,zBe (zIn s h i) j k=zBe s.out j k+(if j=i∧h<k then 1 else 0)
 | 0=>by simp [zBe,sumL]
 | k+1=>by
  have ih:=zMa (j:=j) ol hh hno k
  rw [zCz,zCz,Flow.zAE,Flow.zAE,← zCz,← zCz,ih,zIz ol hh]
  by_cases e:k=h∧j=i
  ·obtain ⟨rfl,rfl⟩:=e
   simp [hno]
  ·have e1:(if k=h∧j=i then true else zBB s.out k j)=zBB s.out k j:=if_neg e
   rw [e1]
   by_cases e2:j=i
   ·have:k≠h:=fun q=>e ⟨q,e2⟩
    by_cases e3:h<k
    ·rw [if_pos (c:=j=i∧h<k) ⟨e2,e3⟩,if_pos (c:=j=i∧h<k+1) ⟨e2,by omega⟩];omega
    ·rw [if_neg (c:=j=i∧h<k) (fun q=>e3 q.2),if_neg (c:=j=i∧h<k+1) (fun q=>by omega)];omega
   ·rw [if_neg (c:=j=i∧h<k) (fun q=>e2 q.1),if_neg (c:=j=i∧h<k+1) (fun q=>e2 q.1)];omega
structure zGm (nb nh:Nat) (s0:PS) (h i:Nat) (s:PS):Prop where
 nd:∀ j k,j<nb→k<nh→ndF s j k=max 0 (ndF s0 j k - zBe s.out j nh)
 time:∀ j k,j<nb→k<nh→ndF s0 j k≤ndF s j k+zBe s.out j k
 my:∀ j k,j<nb→k<nh→¬ Bef h i k j→myF s j k=myF s0 j k
section
variable {nb nh h i:Nat} {s s0:PS}
theorem zQh (iv:zHH nb nh s0 h i s) {k j:Nat} (hx:zBB s.out k j=true):Bef h i k j:=by
 obtain ⟨q,e,h1,h2⟩:=(iv.rows k).2 _ (List.contains_iff_mem.1 hx)
 have:j=q:=by omega
 subst this
 exact h2
theorem zGm.step (mo:zGm nb nh s0 h i s) (iv:zHH nb nh s0 h i s) (ok:zCb nb nh h i s) (hi:i<nb) (hh:h<nh):zGm nb nh s0 h (i+1) (zCN h i s):=by
 have hmy:∀ (n d o),∀ j k,j<nb→k<nh→¬ Bef h (i+1) k j→myF ⟨n,zDD s h i,d,o⟩ j k=myF s0 j k:=fun n d o j k hj hk hb=>by
  rw [zH8 ok hi]
  dsimp only
  unfold Bef at hb
  rw [if_neg (fun q=>hb (.inr (by omega)))]
  exact mo.my j k hj hk fun q=>by unfold Bef at q;omega
 have hno:zBB s.out h i=false:=by
  cases e:zBB s.out h i with
  | false=>rfl
  | true=>have:=zQh iv e;unfold Bef at this;omega
 have hct:=fun j k=>zMa (j:=j) ok.ol hh hno k
 unfold zCN
 cases ht:zE3 s h i with
 | false =>
  rw [if_neg (by simp)]
  exact ⟨mo.nd,mo.time,hmy _ _ _⟩
 | true =>
  rw [if_pos rfl]
  cases hb:zDG (zGL s i) (zDD s h i) (zCP s h) with
  | false =>
   rw [if_neg (by simp)]
   exact ⟨mo.nd,mo.time,hmy _ _ _⟩
  | true =>
   rw [if_pos rfl]
   refine ⟨fun j k hj hk=>?_,fun j k hj hk=>?_,hmy _ _ _⟩
   ·have h1:=mo.nd j k hj hk
    rw [zH7 ok hi]
    dsimp only
    rw [hct]
    by_cases e:j=i
    ·subst e
     rw [if_pos rfl,if_pos ⟨rfl,hh⟩,h1];omega
    ·rw [if_neg e,if_neg (fun q=>e q.1),h1];omega
   ·have h1:=mo.time j k hj hk
    rw [zH7 ok hi]
    dsimp only
    rw [hct]
    by_cases e:j=i
    ·subst e
     rw [if_pos rfl]
     by_cases e2:h<k
     ·rw [if_pos ⟨rfl,e2⟩];omega
     ·rw [if_neg (fun q=>e2 q.2)]
      have:=zL6 iv.can hj hk fun q hq=>iv.past j q hj (.inl (by omega))
      omega
    ·rw [if_neg e,if_neg (fun q=>e q.1)];omega
theorem zGm.next (mo:zGm nb nh s0 h nb s):zGm nb nh s0 (h+1) 0 s :=
 ⟨mo.nd,mo.time,fun j k hj hk hb=>mo.my j k hj hk fun q=>hb (by unfold Bef at q ⊢;omega)⟩
theorem zHa (mo:zGm nb nh s0 h 0 s) (iv:zHH nb nh s0 h 0 s) (ok:zCb nb nh h 0 s) (hh:h<nh):∀ i,i≤nb→zGm nb nh s0 h i (stepsP h i s)
 | 0,_=>mo
 | i+1,hi=>(zHa mo iv ok hh i (by omega)).step (zG6 iv ok hh i (by omega)) (zEd ok hh i (by omega)) (by omega) hh
theorem zHb (mo:zGm nb nh s0 0 0 s) (iv:zHH nb nh s0 0 0 s) (ok:zCb nb nh 0 0 s):∀ h,h≤nh→zGm nb nh s0 h 0 (zB0 nb h s)
 | 0,_=>mo
 | h+1,hh=>(zHa (zHb mo iv ok h (by omega)) (zFa iv ok h (by omega)) (zDF ok h (by omega)) (by omega) nb (Nat.le_refl _)).next
theorem zNp {k j:Nat} (ol:s.out.length=nh) (hh:h<nh) (hne:¬ (k=h∧j=i)):zBB (zCN h i s).out k j=zBB s.out k j:=by
 unfold zCN
 split
 ·split
  ·dsimp only
   rw [zIz ol hh,if_neg hne]
  ·rfl
 ·rfl
theorem zIa (ok:zCb nb nh h 0 s) (hh:h<nh) {k j m:Nat} (hne:k=h→j<m):∀ d,m+d≤nb→zBB (stepsP h (m+d) s).out k j=zBB (stepsP h m s).out k j
 | 0,_=>rfl
 | d+1,hd=>by
  have ih:=zIa ok hh (k:=k) (j:=j) hne d (by omega)
  rw [← ih]
  show zBB (zCN h (m+d) (stepsP h (m+d) s)).out k j=_
  exact zNp (zEd ok hh (m+d) (by omega)).ol hh fun q=>by have:=hne q.1;omega
theorem zML (ok:zCb nb nh 0 0 s) {k j m:Nat} (hkm:k<m):∀ d,m+d≤nh→zBB (zB0 nb (m+d) s).out k j=zBB (zB0 nb m s).out k j
 | 0,_=>rfl
 | d+1,hd=>by
  have ih:=zML ok (j:=j) hkm d (by omega)
  rw [← ih]
  show zBB (stepsP (m+d) nb (zB0 nb (m+d) s)).out k j=_
  have:=zIa (zDF ok (m+d) (by omega)) (by omega) (k:=k) (j:=j) (m:=0) (by omega) nb (by omega)
  rw [Nat.zero_add] at this
  exact this
theorem end_has (ok:zCb nb nh 0 0 s) {k j:Nat} (hh:h<nh) (hi:i<nb) (hb:Bef h (i+1) k j):zBB (zB0 nb nh s).out k j=zBB (zCN h i (stepsP h i (zB0 nb h s))).out k j:=by
 unfold Bef at hb
 have h1:=zML ok (k:=k) (j:=j) (m:=h+1) (by omega) (nh - (h+1)) (by omega)
 rw [show h+1+(nh - (h+1))=nh by omega] at h1
 rw [h1]
 show zBB (stepsP h nb (zB0 nb h s)).out k j=_
 have h2:=zIa (zDF ok h (by omega)) hh (k:=k) (j:=j) (m:=i+1) (by omega) (nb - (i+1)) (by omega)
 rw [show i+1+(nb - (i+1))=nb by omega] at h2
 rw [h2]
 rfl
end
section
variable {c : Cov} (h0:zAr c=0) (hs:Small c) (hc:zDG (zA2 c) (zC6 c) (zAp c)=true)
include h0 hs hc
theorem zLl : zCb c.beds.length c.hours.length 0 0 (zAo c)∧zHH c.beds.length c.hours.length (zAo c) 0 0 (zAo c)∧zGm c.beds.length c.hours.length (zAo c) 0 0 (zAo c):=by
 have hf:=zA1 h0
 have ok0:=zCf hf hs (zD6 hf)
 have hz:∀ k,(zAo c).out.getD k []=[]:=fun k=>by
  show (List.replicate c.hours.length []).getD k []=[]
  rw [List.getD_eq_getElem?_getD,List.getElem?_replicate]
  split<;>rfl
 have hq:∀ j k,zBe (zAo c).out j k=0:=fun j k=>Flow.zAa fun q _=>by rw [hz];rfl
 have hn:∀ j k,j<c.beds.length→k<c.hours.length→0≤ndF (zAo c) j k:=fun j k hj hk=>by
  have h9:=ok0.nr ((zAo c).nds.getD j []) (by rw [Flow.zt (by rw [ok0.nl];exact hj)];exact List.getElem_mem _)
  unfold ndF
  rw [Flow.zt (by rw [h9.len];omega)]
  exact (h9.big _ (List.getElem_mem _)).1
 refine ⟨ok0,⟨(zFD ok0).1 hc,fun j k _ hk=>by omega,fun j _=>?_,fun k _=>by rw [hz];simp,fun k=>by rw [hz];simp⟩,fun j k hj hk=>?_,fun j k hj hk=>?_,fun _ _ _ _ _=>rfl⟩
 ·rw [hq,Int.add_zero]
 ·have:=hn j k hj hk
  rw [hq];omega
 ·rw [hq];omega
theorem zKW {j k:Nat} (hj:j<c.beds.length) (hk:k<c.hours.length):ndF (zAo c) j k=(needG c (c.beds.getD j default) (k+1)).2:=zFV hj k hk
theorem zPR : zBR c (zm (zAy c).1)=2:=by
 have hf:=zA1 h0
 obtain ⟨ok0,iv0,mo0⟩:=zLl h0 hs hc
 have h1:=(zET h0 hs hc).1
 unfold zBR
 rw [if_pos (zC7 h0 h1),if_pos ((zHx hf).2 fun i hi j hj=>?_)]
 rw [zD9 h0 hc]
 dsimp only
 have iv:=zFa iv0 ok0 c.hours.length (Nat.le_refl _)
 have mo:=zHb mo0 iv0 ok0 c.hours.length (Nat.le_refl _)
 have h2:=mo.time i j hi hj
 have h3:=zL6 iv.can hi hj fun q hq=>iv.past i q hi (.inl (by omega))
 rw [zKW h0 hs hc hi hj] at h2
 omega
theorem zN8 {X:List (List Int)} (hok:zAz c (zm X)=true) (hsafe:∀ i,i<c.beds.length→∀ j,j<c.hours.length→(needG c (c.beds.getD i default) (j+1)).2≤zBe X i j) (hcnt:∀ i,i<c.beds.length→zBe X i c.hours.length=(needG c (c.beds.getD i default) c.hours.length).2) {h i:Nat} (hh:h<c.hours.length) (hi:i<c.beds.length) (hag:∀ k j,k<c.hours.length→j<c.beds.length→Bef h i k j→zBB (zAy c).1 k j=zBB X k j) (hx:zBB X h i=true):zBB (zAy c).1 h i=true:=by
 have hf:=zA1 h0
 obtain ⟨ok0,iv0,mo0⟩:=zLl h0 hs hc
 rw [zD9 h0 hc] at hag ⊢
 dsimp only at hag ⊢
 have okh:=zDF ok0 h (by omega)
 have ivh:=zFa iv0 ok0 h (by omega)
 have moh:=zHb mo0 iv0 ok0 h (by omega)
 have ok:=zEd okh hh i (by omega)
 have iv:=zG6 ivh okh hh i (by omega)
 have mo:=zHa moh ivh okh hh i (by omega)
 have hend:=fun k j hb=>end_has (h:=h) (i:=i) ok0 (k:=k) (j:=j) hh hi hb
 rw [hend h i (.inr ⟨rfl,by omega⟩)]
 have hag2:∀ k j,k<c.hours.length→j<c.beds.length→Bef h i k j→zBB (stepsP h i (zB0 c.beds.length h (zAo c))).out k j=zBB X k j:=fun k j hk hj hb=>by
  rw [← hag k j hk hj hb,hend k j (by unfold Bef at hb ⊢;omega)]
  exact (zNp ok.ol hh (by unfold Bef at hb;omega)).symm
 clear hend hag
 generalize stepsP h i (zB0 c.beds.length h (zAo c))=s at *
 have hbef:∀ k j,zBB s.out k j=true→Bef h i k j:=fun k j q=>zQh iv q
 have hno:zBB s.out h i=false:=by
  cases e:zBB s.out h i with
  | false=>rfl
  | true=>have:=hbef _ _ e;unfold Bef at this;omega
 -- what is past,and this one
 have hP:∀ k j,k<c.hours.length→j<c.beds.length→(if zBB s.out k j then (1:Int) else 0)+(if j=i∧k=h then 1 else 0)≤if zBB X k j then 1 else 0:=fun k j hk hj=>by
  by_cases e:j=i∧k=h
  ·obtain ⟨rfl,rfl⟩:=e
   simp [hno,hx]
  ·rw [if_neg e]
   cases e2:zBB s.out k j with
   | false=>simp only [Bool.false_eq_true,if_false];split<;>omega
   | true=>rw [← hag2 k j hk hj (hbef k j e2),e2];simp
 have hrow:=fun k (hk:k<c.hours.length)=>zOf hf hok hk
 have hlen:=fun k (hk:k<c.hours.length)=>(zE7 hf hok k hk).2.2.1
 have hcold:∀ k j,k<c.hours.length→j<c.beds.length→zBB X k j=true→myF (zAo c) j k=true:=fun k j hk hj q=>by
  show ((zC6 c).getD j []).getD k false=true
  rw [zJk hj];exact zMM hf hok hk q
 have hsrow:∀ k,k<c.hours.length→(sumL (List.range c.beds.length) fun j=>if zBB s.out k j then 1 else 0)=(s.out.getD k []).length:=fun k hk=>zM3 _ (iv.rows k).1 fun x hx=>by
  obtain ⟨q,e,h1,_⟩:=(iv.rows k).2 x hx
  exact ⟨q,e,h1⟩
 have hrest:∀ k,k<c.hours.length→(sumL (List.range c.beds.length) fun j=>(if zBB X k j then (1:Int) else 0) - ((if zBB s.out k j then 1 else 0)+(if j=i∧k=h then 1 else 0)))≤hdF s k - (if k=h then 1 else 0):=fun k hk=>by
  rw [Flow.zEc,hrow k hk,Flow.zBW,hsrow k hk]
  have h1:=iv.work k hk
  have h2:=hlen k hk
  have h3:(sumL (List.range c.beds.length) fun j=>if j=i∧k=h then (1:Int) else 0)=if k=h then 1 else 0:=by
   by_cases e:k=h
   ·rw [if_pos e]
    have h9:=Flow.zC3 (c:=(1:Int)) (List.nodup_range (n:=c.beds.length)) (List.mem_range.2 hi)
    refine Eq.trans (zx _ fun j _=>?_) h9
    by_cases e2:j=i<;>simp [e,e2]
   ·rw [if_neg e]
    exact Flow.zAa fun j _=>by rw [if_neg (fun q=>e q.2)]
  rw [h3]
  have h4:hdF (zAo c) k=(zAp c).getD k 0:=rfl
  omega
 have hcol:∀ j k,j<c.beds.length→k≤c.hours.length→zBe s.out j k+(if j=i∧h<k then 1 else 0)≤zBe X j k:=fun j k hj hk=>by
  induction k with
  | zero=>simp [zBe,sumL]
  | succ k ih =>
   have ih:=ih (by omega)
   have h1:=hP k j (by omega) hj
   rw [zCz,zCz,Flow.zAE,Flow.zAE,← zCz,← zCz]
   have e3:(if j=i∧h<k+1 then (1:Int) else 0)=(if j=i∧h<k then 1 else 0)+(if j=i∧k=h then 1 else 0):=by
    by_cases a:j=i<;>by_cases b:h<k<;>by_cases d:k=h<;>simp [a,b,d]<;>omega
   rw [e3]
   omega
 have htake:zE3 s h i=true:=by
  unfold zE3
  simp only [Bool.and_eq_true,decide_eq_true_eq]
  refine ⟨?_,?_,?_⟩
  ·show myF s i h=true
   rw [mo.my i h hi hh (by unfold Bef;omega)]
   exact hcold h i hh hi hx
  ·show 0<hdF s h
   have h1:=hrest h hh
   rw [if_pos rfl] at h1
   have h2:0≤(sumL (List.range c.beds.length) fun j=>(if zBB X h j then (1:Int) else 0) - ((if zBB s.out h j then 1 else 0)+(if j=i∧h=h then 1 else 0))):=Flow.zBE fun j hj=>by
    have:=hP h j hh (List.mem_range.1 hj);omega
   omega
  ·rw [(ok.nr (s.nds.getD i []) (by rw [Flow.zt (by rw [ok.nl];exact hi)];exact List.getElem_mem _)).max (by omega)]
   show 0<ndF s i (c.hours.length - 1)
   have h1:=iv.cnt i hi
   rw [zKW h0 hs hc hi (by omega),Nat.sub_add_cancel (by omega),← hcnt i hi] at h1
   have h2:=hcol i c.hours.length hi (Nat.le_refl _)
   rw [if_pos ⟨rfl,hh⟩] at h2
   omega
 have ok2:zCb c.beds.length c.hours.length 0 0 ⟨zGL s i,zDD s h i,zCP s h,List.replicate c.hours.length []⟩:=⟨(ok.zGz hi).1,(ok.zG2 hi).1,(ok.zEZ hh htake).1,by simp,(ok.zGz hi).2,(ok.zG2 hi).2,(ok.zEZ hh htake).2,fun k=>by
  rw [List.getD_eq_getElem?_getD,List.getElem?_replicate]
  split<;>simp⟩
 have hcan:zDG (zGL s i) (zDD s h i) (zCP s h)=true:=by
  refine (zFD ok2).2 ?_
  rw [zH8 ok hi,zH7 ok hi,zNG ok hh]
  have hXY:∀ k j,k<c.hours.length→j<c.beds.length→(if (zBB X k j && !zBB s.out k j && !decide (j=i∧k=h))=true then (1:Int) else 0)=(if zBB X k j then (1:Int) else 0) - ((if zBB s.out k j then 1 else 0)+(if j=i∧k=h then 1 else 0)):=fun k j hk hj=>by
   have h1:=hP k j hk hj
   by_cases e:j=i∧k=h
   ·have d:decide (j=i∧k=h)=true:=decide_eq_true e
    rw [if_pos (c:=j=i∧k=h) e] at h1 ⊢
    rw [d]
    revert h1
    cases zBB X k j<;>cases zBB s.out k j<;>simp
   ·have d:decide (j=i∧k=h)=false:=decide_eq_false e
    rw [if_neg (c:=j=i∧k=h) e] at h1 ⊢
    rw [d]
    revert h1
    cases zBB X k j<;>cases zBB s.out k j<;>simp
  refine can_of (fun k j=>zBB X k j && !zBB s.out k j && !decide (j=i∧k=h)) (fun k j hk hj hq=>?_) (fun j k hj hk=>?_) fun k hk=>?_
  ·(try dsimp only at hq ⊢)
   simp only [Bool.and_eq_true,Bool.not_eq_true',decide_eq_false_iff_not] at hq
   rw [if_neg hq.2,mo.my j k hj hk fun q=>?_]
   ·exact hcold k j hk hj hq.1.1
   ·rw [hag2 k j hk hj q,hq.1.1] at hq
    exact absurd hq.1.2 (by simp)
  ·(try dsimp only)
   have e1:(sumL (List.range k) fun q=>if (zBB X q j && !zBB s.out q j && !decide (j=i∧q=h))=true then (1:Int) else 0)=zBe X j k - (zBe s.out j k+if j=i∧h<k then 1 else 0):=by
    rw [zx k fun q hq=>hXY q j (by omega) hj,Flow.zEc,Flow.zBW,← zCz,← zCz]
    congr 2
    by_cases e:j=i∧h<k
    ·rw [if_pos e]
     have h9:=Flow.zC3 (c:=(1:Int)) (List.nodup_range (n:=k)) (List.mem_range.2 e.2)
     refine Eq.trans (zx _ fun q _=>?_) h9
     by_cases e2:q=h<;>simp [e.1,e2]
    ·rw [if_neg e]
     exact Flow.zAa fun q hq=>by rw [if_neg (fun r=>e ⟨r.1,by have:=List.mem_range.1 hq;omega⟩)]
   rw [e1]
   have h1:=mo.nd j k hj hk
   rw [zKW h0 hs hc hj hk] at h1
   have h2:=hsafe j hj k hk
   have h3:=hcol j k hj (by omega)
   have h4:=zFp (xss:=s.out) (i:=j) (k:=k) (c.hours.length - k)
   rw [show k+(c.hours.length - k)=c.hours.length by omega] at h4
   by_cases e:j=i
   ·rw [if_pos e]
    subst e
    rw [h1]
    split at h3
    ·rw [if_pos (by assumption)];omega
    ·rw [if_neg (by assumption)];omega
   ·rw [if_neg e,if_neg (fun q=>e q.1)]
    rw [if_neg (fun q=>e q.1)] at h3
    omega
  ·(try dsimp only)
   rw [zx c.beds.length fun j hj=>hXY k j hk hj]
   have h1:=hrest k hk
   by_cases e:k=h
   ·subst e;rw [if_pos rfl] at h1 ⊢;exact h1
   ·rw [if_neg e] at h1 ⊢;omega
 unfold zCN
 rw [htake,if_pos rfl,hcan,if_pos rfl]
 dsimp only
 rw [zIz ok.ol hh,if_pos ⟨rfl,rfl⟩]
end
theorem zN2 {nb:Nat} (f:Int→Int):∀ r:List Int,r.Pairwise (· < ·)→(∀ x∈r,∃ j:Nat,x=(j:Int)∧j<nb)→sumL r f=sumL (List.range nb) fun j=>if r.contains (j:Int) then f j else 0
 | [],_,_=>(Flow.zAa fun _ _=>by simp).symm
 | x::r,h1,h2=>by
  obtain ⟨h3,h4⟩:=List.pairwise_cons.1 h1
  have ih:=zN2 f r h4 fun y hy=>h2 y (List.mem_cons_of_mem _ hy)
  obtain ⟨q,rfl,hq⟩:=h2 x List.mem_cons_self
  have e:(sumL (List.range nb) fun j=>if (((q:Int)::r).contains (j:Int)) then f j else 0)=sumL (List.range nb) fun j=>(if j=q then f q else 0)+(if r.contains (j:Int) then f j else 0):=Flow.zx fun j _=>by
   by_cases e:j=q
   ·subst e
    have h5:¬ (j:Int)∈r:=fun h=>by have:=h3 _ h;omega
    simp [h5]
   ·have:¬ (j:Int)=(q:Int):=by omega
    rw [if_neg e,Int.zero_add]
    simp [List.contains_cons,this]
  rw [e,Flow.zBW,Flow.zC3 List.nodup_range (List.mem_range.2 hq),← ih];rfl
theorem zJt {c:Cov}:∀ l:List Int,∀ z:Sp,l.foldl (zDq c) z=⟨z.lo+sumL l fun x=>c.rate * (zDn c x).lo,z.hi+sumL l fun x=>c.rate * (zDn c x).hi⟩
 | [],z=>by simp [sumL]
 | x::l,z=>by
  rw [List.foldl_cons,zJt l]
  simp only [zDq,sumL,Int.add_assoc]
theorem zLy {c:Cov} {xss:List (List Int)} (hf:zBl c) (hok:zAz c (zm xss)=true) (f:Int→Int):sumL (zEx (zm xss) (zm xss).length) f=sumL (List.range c.beds.length) fun (j:Nat)=>zBe xss j c.hours.length * f j:=by
 have hl:xss.length=c.hours.length:=by have:=(zAc.1 hok).1;simpa [zm] using this
 have e1:zEx (zm xss) (zm xss).length=(List.range xss.length).flatMap fun h=>xss.getD h []:=by
  unfold zEx
  rw [List.take_length]
  unfold zm
  rw [List.flatMap_map]
  have:xss=(List.range xss.length).map fun h=>xss.getD h []:=by
   apply List.ext_getElem
   ·simp
   ·intro i h1 h2;simp [List.getD_eq_getElem?_getD,h1]
  conv=>lhs;rw [this]
  rw [List.flatMap_map]
 rw [e1,Flow.zEO,hl]
 have e2:sumL (List.range c.hours.length) (fun h=>sumL (xss.getD h []) f)=sumL (List.range c.hours.length) fun h=>sumL (List.range c.beds.length) fun (j:Nat)=>if zBB xss h j then f j else 0:=zx _ fun h hh=>by
  obtain ⟨h1,h2,_⟩:=zE7 hf hok h hh
  exact zN2 f _ h1 h2
 rw [e2,Flow.zFR]
 refine zx _ fun j _=>?_
 rw [zCz]
 have key:∀ k,(sumL (List.range k) fun h=>if zBB xss h j then f j else 0)=(sumL (List.range k) fun h=>if zBB xss h j then (1:Int) else 0) * f j:=fun k=>by
  induction k with
  | zero=>simp [sumL]
  | succ k ih =>
   rw [Flow.zAE,Flow.zAE,ih,Int.add_mul]
   congr 1
   split<;>simp
 exact key _
theorem zLa {c:Cov} {xss:List (List Int)} (h0:zAr c=0) (hok:zAz c (zm xss)=true):zDI c (zm xss)=⟨sumL (List.range c.beds.length) fun (j:Nat)=>zBe xss j c.hours.length * (c.rate * (zDn c j).lo),sumL (List.range c.beds.length) fun (j:Nat)=>zBe xss j c.hours.length * (c.rate * (zDn c j).hi)⟩:=by
 have hf:=zA1 h0
 unfold zDI
 rw [if_pos (zC7 h0 hok)]
 unfold zFG
 rw [zJt,zLy hf hok,zLy hf hok]
 simp
theorem water_le {c:Cov} {xss yss:List (List Int)} (h0:zAr c=0) (hx:zAz c (zm xss)=true) (hy:zAz c (zm yss)=true) (h:∀ j,j<c.beds.length→zBe xss j c.hours.length≤zBe yss j c.hours.length):(zDI c (zm xss)).lo≤(zDI c (zm yss)).lo∧(zDI c (zm xss)).hi≤(zDI c (zm yss)).hi:=by
 have hf:=zA1 h0
 have hb:=hf.beds
 have hr:=hf.rate
 rw [zAA] at hr
 rw [zLa h0 hx,zLa h0 hy]
 have hl:=fun j (hj:j<c.beds.length)=>zKb (zK1 h0) (show j<c.t.length by omega)
 constructor
 ·exact Flow.zA0 fun j hj=>Int.mul_le_mul_of_nonneg_right (h j (List.mem_range.1 hj)) (Int.mul_nonneg hr.1 (by have:=hl j (List.mem_range.1 hj);omega))
 ·exact Flow.zA0 fun j hj=>Int.mul_le_mul_of_nonneg_right (h j (List.mem_range.1 hj)) (Int.mul_nonneg hr.1 (by have:=hl j (List.mem_range.1 hj);omega))
end Go.Proofs.YtdigopgncfhiaaaGreatDoor
namespace Go.Proofs.YtdigopgncfhiaaaGreatDoor
open Go.RowKit
open Flow (sumL)
set_option maxRecDepth 20000
def zGi (xss:List (List Int)) (r m j:Nat):Int:=sumL (List.range r) (fun h=>((xss.getD h []).count (j:Int):Int))+(((xss.getD r []).take m).count (j:Int):Int)
def zGj (xss:List (List Int)) (nb r m:Nat):List Int:=(List.range nb).map (zGi xss r m)
section
variable {xss : List (List Int)} {nb r m j:Nat}
theorem zSB : zGi xss r (xss.getD r []).length j=zGi xss (r+1) 0 j:=by
 unfold zGi
 rw [Flow.zAE,List.take_length];simp
theorem zMb {x:Int} (hx:(xss.getD r [])[m]?=some x):zGi xss r (m+1) j=zGi xss r m j+(if x=(j:Int) then 1 else 0):=by
 unfold zGi
 rw [List.take_add_one,hx,Option.toList_some,List.count_append,List.count_singleton]
 simp only [beq_iff_eq]
 split<;>simp_all<;>omega
theorem zSD : zGj xss nb r (xss.getD r []).length=zGj xss nb (r+1) 0:=by
 unfold zGj
 exact List.map_congr_left fun j _=>zSB
theorem zFq : (zGj xss nb r m).length=nb:=by simp [zGj]
theorem zHB (hj:j<nb):(zGj xss nb r m)[j]?=some (zGi xss r m j):=by simp [zGj,hj]
theorem cntL_set {x:Int} (hx:(xss.getD r [])[m]?=some x) (hj:j<nb) (e:x=(j:Int)):(zGj xss nb r m).set j (zGi xss r m j+1)=zGj xss nb r (m+1):=by
 apply List.ext_getElem?
 intro i
 rw [List.getElem?_set,zFq]
 by_cases h:j=i
 ·subst h
  rw [if_pos rfl,if_pos hj,zHB hj,zMb hx,if_pos e]
 ·rw [if_neg h]
  by_cases hi:i<nb
  ·rw [zHB hi,zHB hi,zMb hx,if_neg (by omega),Int.add_zero]
  ·rw [List.getElem?_eq_none (by rw [zFq];omega),List.getElem?_eq_none (by rw [zFq];omega)]
theorem zSC : zGj xss nb 0 0=List.replicate nb 0:=by
 unfold zGj
 rw [show zGi xss 0 0=fun _=>(0:Int) from funext fun j=>by simp [zGi,sumL],List.map_const',List.length_range]
theorem zNU (h:∀ s∈xss,s.length≤20):0≤zGi xss r m j∧zGi xss r m j≤20 * (r:Int)+20:=by
 have hr:∀ k,((xss.getD k []).count (j:Int):Int)≤20:=fun k=>by
  have h1:(xss.getD k []).count (j:Int)≤(xss.getD k []).length:=List.count_le_length
  have h2:(xss.getD k []).length≤20:=by
   rw [List.getD_eq_getElem?_getD]
   cases e:xss[k]? with
   | none=>simp
   | some s=>exact h s (List.mem_of_getElem? e)
  omega
 have h3:((xss.getD r []).take m).count (j:Int)≤(xss.getD r []).count (j:Int):=by
  have h:=congrArg (List.count (j:Int)) (List.take_append_drop m (xss.getD r []))
  rw [List.count_append] at h
  omega
 have h4:=hr r
 have h5:∀ k,0≤sumL (List.range k) (fun h=>((xss.getD h []).count (j:Int):Int))∧sumL (List.range k) (fun h=>((xss.getD h []).count (j:Int):Int))≤20 * (k:Int):=fun k=>by
  induction k with
  | zero=>simp [sumL]
  | succ k ih=>have:=hr k;rw [Flow.zAE];omega
 have:=h5 r
 unfold zGi;omega
theorem zIN (h:∀ k,(xss.getD k []).Pairwise (· < ·)) (k:Nat):zGi xss k 0 j=zBe xss j k:=by
 have hz:(((xss.getD k []).take 0).count (j:Int):Int)=0:=by simp
 unfold zGi zBe
 rw [hz,Int.add_zero]
 refine zx k fun q _=>?_
 have hn:(xss.getD q []).Nodup:=(h q).imp fun h=>by omega
 by_cases hm:(j:Int)∈xss.getD q []
 ·rw [hn.count,if_pos hm,if_pos (List.contains_iff_mem.2 hm)];rfl
 ·rw [hn.count,if_neg hm,if_neg (fun q=>hm (List.contains_iff_mem.1 q))];rfl
end
theorem safe_two {c:Cov} {pl:List Sli} (h:zBR c pl=2):(zAg c pl zAZ).length=0:=by
 unfold zBR at h
 split at h
 ·split at h
  ·assumption
  ·split at h<;>omega
 ·omega
set_option maxHeartbeats 4000000 in
theorem zKl (c:Cov) (A:Option Addr) (ca:Nat) (B:Option Addr) (cb:Nat) (C:Option Addr) (cc:Nat) (pl:List Sli) (P:Option Addr) (cp:Nat) (w:World) (hb:c.beds.length≤20) (hp:zAu w P pl) (hl:pl.length≤12) (hrl:∀ s∈pl,s.xs.length≤20) (hin:∀ s∈pl,∀ x∈s.xs,∃ j:Nat,x=(j:Int)∧j<c.beds.length) :
  zDj encI 1 (zGj (pl.map Sli.xs) c.beds.length pl.length 0) (fun v=>v) Tryz.prog 28 [zAI c A ca B cb C cc,.slice P pl.length cp] w:=by
 refine Ret.newsl ?_
 have hpp:=hp.p
 have hat:∀ i s,pl[i]?=some s→(pl.map Sli.xs).getD i []=s.xs:=fun i s h=>by
  rw [List.getD_eq_getElem?_getD,List.getElem?_map,h];rfl
 have hrl2:∀ s∈pl.map Sli.xs,s.length≤20:=fun s hs=>by
  obtain ⟨z,hz,rfl⟩:=List.mem_map.1 hs
  exact hrl z hz
 have hcl:=fun r m=>zFq (xss:=pl.map Sli.xs) (nb:=c.beds.length) (r:=r) (m:=m)
 have hz0:=zSC (xss:=pl.map Sli.xs) (nb:=c.beds.length)
 have hstep:=fun r m j x h1 h2 h3=>cntL_set (xss:=pl.map Sli.xs) (nb:=c.beds.length) (r:=r) (m:=m) (j:=j) (x:=x) h1 h2 h3
 have hnext:=fun r=>zSD (xss:=pl.map Sli.xs) (nb:=c.beds.length) (r:=r)
 have hca:=fun r m j h=>zHB (xss:=pl.map Sli.xs) (nb:=c.beds.length) (r:=r) (m:=m) (j:=j) h
 have hci:=fun r m j=>zNU (xss:=pl.map Sli.xs) (r:=r) (m:=m) (j:=j) hrl2
 generalize hCL:zGj (pl.map Sli.xs) c.beds.length=CL at *
 generalize hCO:zGi (pl.map Sli.xs)=CO at *
 unfold zAI zH
 (refine zM (n:=43) Tryz.func28 rfl rfl rfl ?_)
 (repeat' (first|((with_reducible refine zG ?_);first|refine zE rfl rfl rfl rfl rfl ?_|refine zC rfl rfl rfl rfl rfl ?_|(refine zK rfl rfl rfl rfl rfl ?_;refine ⟨_,rfl,?_⟩)|refine ze rfl rfl rfl rfl rfl ?_|refine u_makeR (enc:=encI) (0:Int) (n0:=c.beds.length) rfl rfl rfl rfl rfl rfl rfl rfl rfl rfl rfl rfl (by omega) (fun gr=>?_)|refine zr rfl rfl rfl rfl rfl ?_|(refine zAM rfl rfl rfl rfl rfl rfl (fun b=>?_)))|(with_reducible first|refine zI ?_|refine zB ?_|refine zD ?_|refine zA ?_|refine zN ?_)))
 rw [← hz0]
 refine zu (ι:=Nat) [1,5,14,15] rfl (fun r=>r≤pl.length) (fun r=>[(16,.int .i64 (r:Int))]) (fun r=>[.row encI 1 3 (.slice (some ⟨gr,0,none⟩) c.beds.length c.beds.length) (CL r 0)]) (fun r=>pl.length - r) 0 (Nat.zero_le _) (by (first|exact lK1|(repeat (first|exact lK1|(refine zL rfl ?_))))) (by (repeat (first|exact oK1 _|(refine oK2 (by (repeat (first|exact tK1 _ _|apply tK2))) ?_)))) ?_
 rintro r hr
 simp only [zAq,List.cons_append,List.nil_append]
 by_cases hlt:r<pl.length
 ·obtain ⟨s,hs⟩:∃ s,pl[r]?=some s:=⟨_,List.getElem?_eq_getElem hlt⟩
  have hsm:=List.mem_of_getElem? hs
  have hxr:=hat r s hs
  have hsl:=hrl s hsm
  have hrow:=hp.rows s hsm
  have hins:=hin s hsm
  have hnx:=hnext r
  rw [hxr] at hnx
  obtain ⟨bb,o,rfl,_,_⟩:=hpp.at_ hlt
  have:InS w bb o zAC 1 pl:=⟨hpp⟩
  obtain ⟨sA,xs,sc⟩:=s
  have:zAR pl r ⟨sA,xs,sc⟩:=⟨hs⟩
  simp only at hsl hrow hxr hins hnx
  (repeat' (first|((with_reducible refine zG ?_);first|refine zE rfl rfl rfl rfl rfl ?_|refine zC rfl rfl rfl rfl rfl ?_|(refine zK rfl rfl rfl rfl rfl ?_;refine ⟨_,rfl,?_⟩)|(refine zQ rfl rfl rfl rfl rfl rfl rfl (fun h=>?_) (fun h=>?_)<;>(dsimp only [cmpP] at h;(try (exfalso;omega))))|refine zi rfl rfl rfl rfl rfl rfl rfl (by omega) ?_|refine zr rfl rfl rfl rfl rfl ?_)|(with_reducible first|refine zI ?_|refine zB ?_|refine zD ?_|refine zA ?_|refine zP ?_|refine zN ?_)|((with_reducible refine zJ ?_ ?_);(· exact rfl))))
  refine zu (ι:=Nat) [1,5,14,15,16,20,21] rfl (fun m=>m≤xs.length) (fun m=>[(22,.int .i64 (m:Int))]) (fun m=>[.row encI 1 3 (.slice (some ⟨gr,0,none⟩) c.beds.length c.beds.length) (CL r m)]) (fun m=>xs.length - m) 0 (Nat.zero_le _) (by (first|exact lK1|(repeat (first|exact lK1|(refine zL rfl ?_))))) (by (repeat (first|exact oK1 _|(refine oK2 (by (repeat (first|exact tK1 _ _|apply tK2))) ?_)))) ?_
  rintro m hm
  simp only [zAq,List.cons_append,List.nil_append]
  by_cases hml:m<xs.length
  ·obtain ⟨x,hx⟩:∃ x,xs[m]?=some x:=⟨_,List.getElem?_eq_getElem hml⟩
   obtain ⟨j,rfl,hj⟩:=hins x (List.mem_of_getElem? hx)
   obtain ⟨b2,o2,rfl,_,_⟩:=hrow.at_ hml
   have:InS w b2 o2 encI 1 xs:=⟨hrow⟩
   have:zAR xs m (j:Int):=⟨hx⟩
   have:zAR (CL r m) j (CO r m j):=⟨hca r m j hj⟩
   have hc1:=hci r m j
   have hc2:=hcl r m
   have hst:=hstep r m j (j:Int) (by rw [hxr];exact hx) hj rfl
   (repeat' (first|((with_reducible refine zG ?_);first|refine zE rfl rfl rfl rfl rfl ?_|refine zC rfl rfl rfl rfl rfl ?_|(refine zK rfl rfl rfl rfl rfl ?_;refine ⟨_,rfl,?_⟩)|refine zAf rfl rfl rfl rfl rfl rfl ?_|(refine zQ rfl rfl rfl rfl rfl rfl rfl (fun h=>?_) (fun h=>?_)<;>(dsimp only [cmpP] at h;(try (exfalso;omega))))|refine zCd (enc:=encI) (i:=j) (CO r m j+1) rfl rfl rfl rfl rfl rfl rfl rfl (by omega) ?_|refine zj rfl rfl rfl rfl rfl rfl (by omega) ?_|refine zCh rfl rfl rfl rfl rfl rfl (IntWalk.i64_in _ (by omega)) ?_|refine zi rfl rfl rfl rfl rfl rfl rfl (by omega) ?_|refine zr rfl rfl rfl rfl rfl ?_)|(with_reducible first|refine zI ?_|refine zB ?_|refine zD ?_|refine zA ?_|refine zP ?_|refine zN ?_|refine zk ?_)|((with_reducible refine zJ ?_ ?_);(· exact rfl))))
   rw [hst]
   exact zc (ι:=Nat) (m+1) (by omega) (by omega) (by (first|exact lK1|(repeat (first|exact lK1|(refine zL rfl ?_))))) (by (repeat (first|exact oK1 _|(refine oK2 (by (repeat (first|exact tK1 _ _|apply tK2))) ?_))))
  ·obtain rfl:m=xs.length:=by omega
   rw [hnx]
   (repeat' (first|((with_reducible refine zG ?_);first|refine zE rfl rfl rfl rfl rfl ?_|(refine zQ rfl rfl rfl rfl rfl rfl rfl (fun h=>?_) (fun h=>?_)<;>(dsimp only [cmpP] at h;(try (exfalso;omega))))|refine zj rfl rfl rfl rfl rfl rfl (by omega) ?_)|(with_reducible first|refine zI ?_|refine zB ?_|refine zD ?_|refine zA ?_|refine zn ?_|refine zk ?_|refine zR ?_|refine zY ?_)|((with_reducible refine zF ?_ ?_);(· exact rfl))))
   exact zc (ι:=Nat) (r+1) (by omega) (by omega) (by (first|exact lK1|(repeat (first|exact lK1|(refine zL rfl ?_))))) (by (repeat (first|exact oK1 _|(refine oK2 (by (repeat (first|exact tK1 _ _|apply tK2))) ?_))))
 ·obtain rfl:r=pl.length:=by omega
  (repeat' (first|((with_reducible refine zG ?_);first|refine zE rfl rfl rfl rfl rfl ?_|refine zC rfl rfl rfl rfl rfl ?_|(refine zQ rfl rfl rfl rfl rfl rfl rfl (fun h=>?_) (fun h=>?_)<;>(dsimp only [cmpP] at h;(try (exfalso;omega)))))|(with_reducible first|refine zI ?_|refine zB ?_|refine zD ?_|refine zA ?_|refine zb ?_|refine zn ?_|refine zR ?_|refine zY ?_)|((with_reducible refine zF ?_ ?_);(· exact rfl))))
  exact zT (by (exact zO.cons (by exact zq.tmp rfl) zO.nil)) (some ⟨gr,0,none⟩,c.beds.length) trivial (by simp [resV,hcl]) (fun _ h=>(h.zCT (enc:=encI) (by (repeat (first|exact tK1 _ _|apply tK2)))).sub (by (repeat (first|exact oK1 _|(refine oK2 (by (repeat (first|exact tK1 _ _|apply tK2))) ?_)))))
end Go.Proofs.YtdigopgncfhiaaaGreatDoor
